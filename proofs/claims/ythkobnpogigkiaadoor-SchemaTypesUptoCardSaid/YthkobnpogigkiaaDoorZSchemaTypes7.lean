/- Several texts in one, each with its own sentence ahead of it. Conditions: each one says its own. -/
import Derived.Test.YthkobnpogigkiaaDoorZSchemaTypes6
import Derived.LaidMore
import Derived.ChangeArms
import Derived.MakeChecks
/- Commands, bound: what Bind computes. Conditions: how much there is of what comes in. -/
namespace Go.Proofs.YthkobnpogigkiaaDoor
open Go.Abs
set_option maxRecDepth 100000
attribute [local irreducible] L Code.wp bodyPost Exit.then Exit.inBlock
set_option linter.unusedVariables false
set_option linter.unusedSimpArgs false
def createE (c : Cat) (s : Stm) : Int := if goodTabM ⟨s.name, s.cols⟩ = false then 1 else if (findT c s.name).2 then 4 else if 3 ≤ c.ts.length then 8 else 0
def markE (c : Cat) (s : Stm) : Int :=
  if namedM s.name = false then 1
  else if (findT c s.table).2 = false ∨ colM (findT c s.table).1 s.col < 0 then 3
  else if c.is.any (fun x => x.n == s.name) then 4 else if 4 ≤ c.is.length then 8 else 0
def preM (c : Cat) (s : Stm) : Stm × Int :=
  if s.kind = 1 then (s, createE c s)
  else if s.kind = 2 then (s, markE c s)
  else if s.kind = 3 then (s, if (findT c s.name).2 then 0 else 3)
  else if s.kind = 7 then chooseM c s
  else if (findT c s.table).2 then changeM s (findT c s.table).1 else (s, 3)
def formM (c : Cat) (s : Stm) : Bool := !(((!goodCatM c || decide (s.kind < 1)) || decide (7 < s.kind)) || (exprsM s).any (fun e => !goodExM 1 e))
def bindStM (c : Cat) (s : Stm) : Stm × Int :=
  if formM c s = false then (nilSt, 1) else if (preM c s).2 ≠ 0 then (nilSt, (preM c s).2) else ((preM c s).1, 0)
theorem goodCat_find {c : Cat} (h : goodCatM c = true) : c.ts.length ≤ 3 ∧ c.is.length ≤ 4 ∧ ∀ name, (findT c name).1.cols.length ≤ 4 := by
  simp only [goodCatM, Bool.and_eq_true, decide_eq_true_eq] at h
  obtain ⟨h1, h2, h3, h4⟩ := h
  refine ⟨by omega, by omega, fun name => ?_⟩
  unfold findT
  cases hf : c.ts.find? (fun t => t.n == name) with
  | none => simp
  | some t =>
    obtain ⟨i, hi⟩ := List.getElem?_of_mem (List.mem_of_find?_eq_some hf)
    have := List.all_eq_true.1 h1 (t, i) (List.mem_iff_getElem?.2 ⟨i, by simp [List.getElem?_zipIdx, hi]⟩)
    simp only [tabOk, Bool.not_eq_true', Bool.or_eq_false_iff, Bool.not_eq_false'] at this
    have hg := this.1
    simp only [goodTabM, Bool.and_eq_true, decide_eq_true_eq] at hg
    exact hg.2.2.2.1
theorem bind1f_any (e : Ex) (hok : e.OkS) : CallG gs0 Tryd.prog 43 [.agg (e.cs.map .iv)] [] [] [] (aB (!goodExM 1 e)) := by
  have k := goodEx_any e hok 1 (by decide) (by decide)
  refine CallG.intro _ Tryd.func43 rfl Tryd.ntmps43 rfl (fun w0 E0 hG => ?_)
  (repeat' (first | (refine LW.is ?_; first | (apply s_callG; exact rfl; exact hG; exact k; exact rfl; exact rfl) | refine s_v ?_ | refine s_m ?_ | refine s_nil ?_ | refine s_gd ?_ | (refine s_gsplit rfl rfl rfl (fun hb => ?_) (fun hb => ?_) <;> refine fct hb (fun hp => ?_))) | (refine DR.is ?_; first | (apply d_callG; exact rfl; exact hG; exact k; exact rfl; exact rfl) | refine d_v ?_ | refine d_m ?_ | (apply d_nil; kernel_rfl) | refine d_gd ?_ | (refine d_gsplit rfl rfl rfl (fun hb => ?_) (fun hb => ?_) <;> refine fct hb (fun hp => ?_))) | refine c_go ?_ | refine s_region ?_ | refine d_region ?_ | (refine L.cond rfl (fun hb => ?_) (fun hb => ?_) <;> refine fct hb (fun hp => ?_))))
  all_goals (first | (apply L.ends1; exact rfl; exact rfl; exact rfl) | (apply L.ends2; exact rfl; exact rfl; exact rfl) | (apply L.ends3; exact rfl; exact rfl; exact rfl) | (apply L.ends1A; exact rfl; exact rfl; exact rfl) | (apply L.ends2A; exact rfl; exact rfl; exact rfl) | (apply L.ends3A; exact rfl; exact rfl; exact rfl))
  all_goals rfl
theorem bind2f_any {gs : Globs} (x : Idx) (s : Stm) :
    CallG gs Tryd.prog 48 [.agg (x.c.map .iv), .ptr 1000 0] [(1000, ⟨36, .l (s.cs.map .iv)⟩)] [(1000, ⟨36, .l (s.cs.map .iv)⟩)] [] (aB (x.n == s.name)) := by
  refine CallG.intro _ Tryd.func48 rfl Tryd.ntmps48 rfl (fun w0 E0 hG => ?_)
  (repeat' (first | (refine LW.is ?_; first | refine s_v ?_ | refine s_m ?_ | refine s_nil ?_ | refine s_gd ?_ | (refine s_gsplit rfl rfl rfl (fun hb => ?_) (fun hb => ?_) <;> refine fct hb (fun hp => ?_))) | (refine DR.is ?_; first | refine d_v ?_ | refine d_m ?_ | (apply d_nil; kernel_rfl) | refine d_gd ?_ | (refine d_gsplit rfl rfl rfl (fun hb => ?_) (fun hb => ?_) <;> refine fct hb (fun hp => ?_))) | refine c_go ?_ | refine s_region ?_ | refine d_region ?_ | (refine L.cond rfl (fun hb => ?_) (fun hb => ?_) <;> refine fct hb (fun hp => ?_))))
  all_goals (apply L.ends; exact rfl; exact rfl; exact Sub.refl _; exact Wk.mk' (by intro id h; simp [keys] at h; subst h; rfl) .nil (.cons rfl rfl (Subs.refl _) .nil) .nil)
set_option maxHeartbeats 16000000 in
theorem bindSt_any (c : Cat) (hc : c.Ok) (s : Stm) (hok : s.Ok) :
    CallG gs0 Tryd.prog 8 [.agg (c.c.map .iv), .agg (s.cs.map .iv)] [] [] [] (.tup [.agg ((bindStM c s).1.cs.map .iv), .iv (I (bindStM c s).2)]) := by
  have kg := goodCat_any c hc
  have ke := exprs_any s hok
  have kc := containsE0_any (gs := gs0) (f := 43) (fun e => !goodExM 1 e) (exprsM s) ?hel (fun e he => bind1f_any e (hok.all e he))
  case hel =>
    have h := hok.tot
    unfold exprsM
    simp only [List.length_append, List.length_map]
    have : (if s.wh.op = 0 then ([] : List Ex) else [s.wh]).length ≤ 1 := by split <;> simp
    generalize s.rows.flatten.length = z at *
    omega
  have kfT := findTable_any c s.table hc.t
  have kfN := findTable_any c s.name hc.t
  have knN := named_any s.name hok.name
  have hgt : (⟨s.name, s.cols⟩ : Tab).Ok := ⟨hok.name, hok.cols, hok.cn⟩
  have kgt := goodTable_any ⟨s.name, s.cols⟩ hgt
  have kx := containsX_any (gs := gs0) (f := 48) (b := ⟨36, .l (s.cs.map .iv)⟩) (fun x => x.n == s.name) c.is hc.i rfl rfl (fun x _ => bind2f_any x s)
  unfold bindStM
  refine CallG.intro _ Tryd.func8 rfl Tryd.ntmps8 rfl (fun w0 E0 hG => ?_)
  cases hg : goodCatM c with
  | false =>
    rw [hg] at kg
    rw [show formM c s = false by simp [formM, hg], if_pos rfl]
    (repeat' (first | (refine LW.is ?_; first | (apply s_callG; exact rfl; exact hG; exact kg; exact rfl; exact rfl) | refine s_v ?_ | refine s_m ?_ | refine s_nil ?_ | refine s_gd ?_ | (refine s_gsplit rfl rfl rfl (fun hb => ?_) (fun hb => ?_) <;> refine fct hb (fun hp => ?_))) | (refine DR.is ?_; first | (apply d_callG; exact rfl; exact hG; exact kg; exact rfl; exact rfl) | refine d_v ?_ | refine d_m ?_ | (apply d_nil; kernel_rfl) | refine d_gd ?_ | (refine d_gsplit rfl rfl rfl (fun hb => ?_) (fun hb => ?_) <;> refine fct hb (fun hp => ?_))) | refine c_go ?_ | refine s_region ?_ | refine d_region ?_ | (refine L.cond rfl (fun hb => ?_) (fun hb => ?_) <;> refine fct hb (fun hp => ?_))))
    all_goals (first | (apply L.ends1; exact rfl; exact rfl; exact rfl) | (apply L.ends2; exact rfl; exact rfl; exact rfl) | (apply L.ends3; exact rfl; exact rfl; exact rfl) | (apply L.ends1A; exact rfl; exact rfl; exact rfl) | (apply L.ends2A; exact rfl; exact rfl; exact rfl) | (apply L.ends3A; exact rfl; exact rfl; exact rfl))
    all_goals rfl
  | true =>
  rw [hg] at kg
  obtain ⟨hct, hci, hcc⟩ := goodCat_find hg
  have kch := choose_any c s hok (by omega) (fun name => Nat.le_trans (hcc name) (by decide)) hok.wh.ok
  have kcg := change_any s hok (findT c s.table).1 (Nat.le_trans (hcc s.table) (by decide)) hok.wh.ok
  cases h1 : decide (s.kind < 1) with
  | true =>
    rw [show formM c s = false by simp [formM, hg, h1], if_pos rfl]
    (repeat' (first | (refine LW.is ?_; first | (apply s_callG; exact rfl; exact hG; exact kg; exact rfl; exact rfl) | refine s_v ?_ | refine s_m ?_ | refine s_nil ?_ | refine s_gd ?_ | (refine s_gsplit rfl rfl rfl (fun hb => ?_) (fun hb => ?_) <;> refine fct hb (fun hp => ?_))) | (refine DR.is ?_; first | (apply d_callG; exact rfl; exact hG; exact kg; exact rfl; exact rfl) | refine d_v ?_ | refine d_m ?_ | (apply d_nil; kernel_rfl) | refine d_gd ?_ | (refine d_gsplit rfl rfl rfl (fun hb => ?_) (fun hb => ?_) <;> refine fct hb (fun hp => ?_))) | refine c_go ?_ | refine s_region ?_ | refine d_region ?_ | (refine L.cond rfl (fun hb => ?_) (fun hb => ?_) <;> refine fct hb (fun hp => ?_))))
    all_goals (first | (apply L.ends1; exact rfl; exact rfl; exact rfl) | (apply L.ends2; exact rfl; exact rfl; exact rfl) | (apply L.ends3; exact rfl; exact rfl; exact rfl) | (apply L.ends1A; exact rfl; exact rfl; exact rfl) | (apply L.ends2A; exact rfl; exact rfl; exact rfl) | (apply L.ends3A; exact rfl; exact rfl; exact rfl))
    all_goals rfl
  | false =>
  cases h2 : decide (7 < s.kind) with
  | true =>
    rw [show formM c s = false by simp [formM, hg, h1, h2], if_pos rfl]
    (repeat' (first | (refine LW.is ?_; first | (apply s_callG; exact rfl; exact hG; exact kg; exact rfl; exact rfl) | refine s_v ?_ | refine s_m ?_ | refine s_nil ?_ | refine s_gd ?_ | (refine s_gsplit rfl rfl rfl (fun hb => ?_) (fun hb => ?_) <;> refine fct hb (fun hp => ?_))) | (refine DR.is ?_; first | (apply d_callG; exact rfl; exact hG; exact kg; exact rfl; exact rfl) | refine d_v ?_ | refine d_m ?_ | (apply d_nil; kernel_rfl) | refine d_gd ?_ | (refine d_gsplit rfl rfl rfl (fun hb => ?_) (fun hb => ?_) <;> refine fct hb (fun hp => ?_))) | refine c_go ?_ | refine s_region ?_ | refine d_region ?_ | (refine L.cond rfl (fun hb => ?_) (fun hb => ?_) <;> refine fct hb (fun hp => ?_))))
    all_goals (first | (apply L.ends1; exact rfl; exact rfl; exact rfl) | (apply L.ends2; exact rfl; exact rfl; exact rfl) | (apply L.ends3; exact rfl; exact rfl; exact rfl) | (apply L.ends1A; exact rfl; exact rfl; exact rfl) | (apply L.ends2A; exact rfl; exact rfl; exact rfl) | (apply L.ends3A; exact rfl; exact rfl; exact rfl))
    all_goals rfl
  | false =>
  cases h3 : (exprsM s).any (fun e => !goodExM 1 e) with
  | true =>
    rw [h3] at kc
    rw [show formM c s = false by simp [formM, hg, h1, h2, h3], if_pos rfl]
    (repeat' (first | (refine LW.is ?_; first | (apply s_callG; exact rfl; exact hG; exact kg; exact rfl; exact rfl) | (apply s_call0; exact rfl; exact ke; exact rfl; exact rfl) | (apply s_callG; exact rfl; exact hG; exact kc; exact rfl; exact rfl) | refine s_v ?_ | refine s_m ?_ | refine s_nil ?_ | refine s_gd ?_ | (refine s_gsplit rfl rfl rfl (fun hb => ?_) (fun hb => ?_) <;> refine fct hb (fun hp => ?_))) | (refine DR.is ?_; first | (apply d_callG; exact rfl; exact hG; exact kg; exact rfl; exact rfl) | (apply d_call0; exact rfl; exact ke; exact rfl; exact rfl) | (apply d_callG; exact rfl; exact hG; exact kc; exact rfl; exact rfl) | refine d_v ?_ | refine d_m ?_ | (apply d_nil; kernel_rfl) | refine d_gd ?_ | (refine d_gsplit rfl rfl rfl (fun hb => ?_) (fun hb => ?_) <;> refine fct hb (fun hp => ?_))) | refine c_go ?_ | refine s_region ?_ | refine d_region ?_ | (refine L.cond rfl (fun hb => ?_) (fun hb => ?_) <;> refine fct hb (fun hp => ?_))))
    all_goals (first | (apply L.ends1; exact rfl; exact rfl; exact rfl) | (apply L.ends2; exact rfl; exact rfl; exact rfl) | (apply L.ends3; exact rfl; exact rfl; exact rfl) | (apply L.ends1A; exact rfl; exact rfl; exact rfl) | (apply L.ends2A; exact rfl; exact rfl; exact rfl) | (apply L.ends3A; exact rfl; exact rfl; exact rfl))
    all_goals rfl
  | false =>
  rw [h3] at kc
  rw [show formM c s = true by simp [formM, hg, h1, h2, h3], if_neg (by decide)]
  have hk : s.kind = 1 ∨ s.kind = 2 ∨ s.kind = 3 ∨ s.kind = 4 ∨ s.kind = 5 ∨ s.kind = 6 ∨ s.kind = 7 := by
    have := of_decide_eq_false h1
    have := of_decide_eq_false h2
    omega
  have lts : ((c.ts.map Tab.c).length : Int) = (c.ts.length : Int) := by simp
  have lis : ((c.is.map Idx.c).length : Int) = (c.is.length : Int) := by simp
  have q0 : ((0 : Int) != 0) = false := rfl
  rcases hk with hk | hk | hk | hk | hk | hk | hk
  · -- create
    rw [show preM c s = (s, createE c s) by rw [preM, if_pos hk]]
    obtain ⟨kind, name, table, col, cols, rows, sets, frm, out, wh, ord, down, n⟩ := s
    dsimp only at hk kg ke kc kfT kfN knN kgt kx ⊢
    subst hk
    clear kch kcg hcc hgt hok
    unfold createE
    dsimp only
    generalize findT c table = ft at *
    generalize findT c name = fn at *
    obtain ⟨tt, is⟩ := ft
    obtain ⟨tn, twice⟩ := fn
    dsimp only at *
    cases hq : goodTabM ⟨name, cols⟩ with
    | false =>
      rw [hq] at kgt
      rw [if_pos rfl, if_pos (show (1 : Int) ≠ 0 by decide)]
      (repeat' (first | (refine LW.is ?_; first | (apply s_callG; exact rfl; exact hG; (first | exact kg | exact kc | exact kgt); exact rfl; exact rfl) | (apply s_call0; exact rfl; (first | exact ke | exact kfT); exact rfl; exact rfl) | (apply s_call0; exact rfl; exact kfN; exact rfl; exact rfl) | refine s_v ?_ | refine s_m ?_ | refine s_nil ?_ | refine s_gd ?_ | (refine s_gsplit rfl rfl rfl (fun hb => ?_) (fun hb => ?_) <;> refine fct hb (fun hp => ?_))) | (refine DR.is ?_; first | (apply d_callG; exact rfl; exact hG; (first | exact kg | exact kc | exact kgt); exact rfl; exact rfl) | (apply d_call0; exact rfl; (first | exact ke | exact kfT); exact rfl; exact rfl) | (apply d_call0; exact rfl; exact kfN; exact rfl; exact rfl) | refine d_v ?_ | refine d_m ?_ | (apply d_nil; kernel_rfl) | refine d_gd ?_ | (refine d_gsplit rfl rfl rfl (fun hb => ?_) (fun hb => ?_) <;> refine fct hb (fun hp => ?_))) | refine c_go ?_ | refine s_region ?_ | refine d_region ?_ | (refine L.cond rfl (fun hb => ?_) (fun hb => ?_) <;> refine fct hb (fun hp => ?_))))
      all_goals (first | (apply L.ends1; exact rfl; exact rfl; exact rfl) | (apply L.ends2; exact rfl; exact rfl; exact rfl) | (apply L.ends3; exact rfl; exact rfl; exact rfl) | (apply L.ends1A; exact rfl; exact rfl; exact rfl) | (apply L.ends2A; exact rfl; exact rfl; exact rfl) | (apply L.ends3A; exact rfl; exact rfl; exact rfl))
      all_goals rfl
    | true =>
    rw [hq] at kgt
    rw [if_neg (show ¬ (true = false) by decide)]
    cases twice with
    | true =>
      rw [if_pos rfl, if_pos (show (4 : Int) ≠ 0 by decide)]
      (repeat' (first | (refine LW.is ?_; first | (apply s_callG; exact rfl; exact hG; (first | exact kg | exact kc | exact kgt); exact rfl; exact rfl) | (apply s_call0; exact rfl; (first | exact ke | exact kfT); exact rfl; exact rfl) | (apply s_call0; exact rfl; exact kfN; exact rfl; exact rfl) | refine s_v ?_ | refine s_m ?_ | refine s_nil ?_ | refine s_gd ?_ | (refine s_gsplit rfl rfl rfl (fun hb => ?_) (fun hb => ?_) <;> refine fct hb (fun hp => ?_))) | (refine DR.is ?_; first | (apply d_callG; exact rfl; exact hG; (first | exact kg | exact kc | exact kgt); exact rfl; exact rfl) | (apply d_call0; exact rfl; (first | exact ke | exact kfT); exact rfl; exact rfl) | (apply d_call0; exact rfl; exact kfN; exact rfl; exact rfl) | refine d_v ?_ | refine d_m ?_ | (apply d_nil; kernel_rfl) | refine d_gd ?_ | (refine d_gsplit rfl rfl rfl (fun hb => ?_) (fun hb => ?_) <;> refine fct hb (fun hp => ?_))) | refine c_go ?_ | refine s_region ?_ | refine d_region ?_ | (refine L.cond rfl (fun hb => ?_) (fun hb => ?_) <;> refine fct hb (fun hp => ?_))))
      all_goals (first | (apply L.ends1; exact rfl; exact rfl; exact rfl) | (apply L.ends2; exact rfl; exact rfl; exact rfl) | (apply L.ends3; exact rfl; exact rfl; exact rfl) | (apply L.ends1A; exact rfl; exact rfl; exact rfl) | (apply L.ends2A; exact rfl; exact rfl; exact rfl) | (apply L.ends3A; exact rfl; exact rfl; exact rfl))
      all_goals rfl
    | false =>
    rw [if_neg (show ¬ (false = true) by decide)]
    by_cases h3 : 3 ≤ c.ts.length
    · have q3 : decide ((3 : Int) ≤ ((c.ts.map Tab.c).length : Int)) = true := decide_eq_true (by rw [lts]; omega)
      rw [if_pos h3, if_pos (show (8 : Int) ≠ 0 by decide)]
      (repeat' (first | (refine LW.is ?_; first | (apply s_callG; exact rfl; exact hG; (first | exact kg | exact kc | exact kgt); exact rfl; exact rfl) | (apply s_call0; exact rfl; (first | exact ke | exact kfT); exact rfl; exact rfl) | (apply s_call0; exact rfl; exact kfN; exact rfl; exact rfl) | refine s_v ?_ | refine s_m ?_ | refine s_nil ?_ | refine s_gd ?_ | (refine s_gsplit rfl rfl rfl (fun hb => ?_) (fun hb => ?_) <;> refine fct hb (fun hp => ?_))) | (refine DR.is ?_; first | (apply d_callG; exact rfl; exact hG; (first | exact kg | exact kc | exact kgt); exact rfl; exact rfl) | (apply d_call0; exact rfl; (first | exact ke | exact kfT); exact rfl; exact rfl) | (apply d_call0; exact rfl; exact kfN; exact rfl; exact rfl) | refine d_v ?_ | refine d_m ?_ | (apply d_nil; kernel_rfl) | refine d_gd ?_ | (refine d_gsplit rfl rfl rfl (fun hb => ?_) (fun hb => ?_) <;> refine fct hb (fun hp => ?_))) | refine c_go ?_ | refine s_region ?_ | refine d_region ?_ | (refine L.cond rfl (fun hb => ?_) (fun hb => ?_) <;> refine fct hb (fun hp => ?_))))
      all_goals (first | (apply L.ends1; exact rfl; exact rfl; exact rfl) | (apply L.ends2; exact rfl; exact rfl; exact rfl) | (apply L.ends3; exact rfl; exact rfl; exact rfl) | (apply L.ends1A; exact rfl; exact rfl; exact rfl) | (apply L.ends2A; exact rfl; exact rfl; exact rfl) | (apply L.ends3A; exact rfl; exact rfl; exact rfl))
      all_goals rfl
    · have q3 : decide ((3 : Int) ≤ ((c.ts.map Tab.c).length : Int)) = false := decide_eq_false (by rw [lts]; omega)
      rw [if_neg h3, if_neg (show ¬ ((0 : Int) ≠ 0) by decide)]
      (repeat' (first | (refine LW.is ?_; first | (apply s_callG; exact rfl; exact hG; (first | exact kg | exact kc | exact kgt); exact rfl; exact rfl) | (apply s_call0; exact rfl; (first | exact ke | exact kfT); exact rfl; exact rfl) | (apply s_call0; exact rfl; exact kfN; exact rfl; exact rfl) | refine s_v ?_ | refine s_m ?_ | refine s_nil ?_ | refine s_gd ?_ | (refine s_gsplit rfl rfl rfl (fun hb => ?_) (fun hb => ?_) <;> refine fct hb (fun hp => ?_))) | (refine DR.is ?_; first | (apply d_callG; exact rfl; exact hG; (first | exact kg | exact kc | exact kgt); exact rfl; exact rfl) | (apply d_call0; exact rfl; (first | exact ke | exact kfT); exact rfl; exact rfl) | (apply d_call0; exact rfl; exact kfN; exact rfl; exact rfl) | refine d_v ?_ | refine d_m ?_ | (apply d_nil; kernel_rfl) | refine d_gd ?_ | (refine d_gsplit rfl rfl rfl (fun hb => ?_) (fun hb => ?_) <;> refine fct hb (fun hp => ?_))) | refine c_go ?_ | refine s_region ?_ | refine d_region ?_ | (refine L.cond rfl (fun hb => ?_) (fun hb => ?_) <;> refine fct hb (fun hp => ?_))))
      all_goals (first | (apply L.ends1; exact rfl; exact rfl; exact rfl) | (apply L.ends2; exact rfl; exact rfl; exact rfl) | (apply L.ends3; exact rfl; exact rfl; exact rfl) | (apply L.ends1A; exact rfl; exact rfl; exact rfl) | (apply L.ends2A; exact rfl; exact rfl; exact rfl) | (apply L.ends3A; exact rfl; exact rfl; exact rfl))
      all_goals rfl
  · -- mark
    rw [show preM c s = (s, markE c s) by rw [preM, if_neg (by rw [hk]; decide), if_pos hk]]
    have kcol := findCol_any (findT c s.table).1 s.col (Nat.le_trans (hcc s.table) (by decide))
    obtain ⟨kind, name, table, col, cols, rows, sets, frm, out, wh, ord, down, n⟩ := s
    dsimp only at hk kg ke kc kfT kfN knN kgt kx kcol ⊢
    subst hk
    clear kch kcg hcc hgt hok kgt kfN
    unfold markE
    dsimp only
    generalize findT c table = ft at *
    obtain ⟨tt, is⟩ := ft
    dsimp only at *
    cases hq : namedM name with
    | false =>
      rw [hq] at knN
      rw [if_pos rfl, if_pos (show (1 : Int) ≠ 0 by decide)]
      (repeat' (first | (refine LW.is ?_; first | (apply s_callG; exact rfl; exact hG; (first | exact kg | exact kc | exact knN); exact rfl; exact rfl) | (apply s_call0; exact rfl; (first | exact ke | exact kfT | exact kcol); exact rfl; exact rfl) | (apply s_vr; exact rfl; apply v_makeFunc; exact rfl) | (apply s_callG1 (q := 3); exact rfl; exact hG; exact kx; exact rfl; exact rfl; exact rfl; exact rfl; exact rfl; exact rfl; exact rfl) | refine s_v ?_ | refine s_m ?_ | refine s_nil ?_ | refine s_gd ?_ | (refine s_gsplit rfl rfl rfl (fun hb => ?_) (fun hb => ?_) <;> refine fct hb (fun hp => ?_))) | (refine DR.is ?_; first | (apply d_callG; exact rfl; exact hG; (first | exact kg | exact kc | exact knN); exact rfl; exact rfl) | (apply d_call0; exact rfl; (first | exact ke | exact kfT | exact kcol); exact rfl; exact rfl) | (apply d_vr; exact rfl; apply v_makeFunc; exact rfl) | (apply d_callG1 (q := 3); exact rfl; exact hG; exact kx; exact rfl; exact rfl; exact rfl; exact rfl; exact rfl; exact rfl; exact rfl) | refine d_v ?_ | refine d_m ?_ | (apply d_nil; kernel_rfl) | refine d_gd ?_ | (refine d_gsplit rfl rfl rfl (fun hb => ?_) (fun hb => ?_) <;> refine fct hb (fun hp => ?_))) | refine c_go ?_ | refine s_region ?_ | refine d_region ?_ | (refine L.cond rfl (fun hb => ?_) (fun hb => ?_) <;> refine fct hb (fun hp => ?_))))
      all_goals (first | (apply L.ends1; exact rfl; exact rfl; exact rfl) | (apply L.ends2; exact rfl; exact rfl; exact rfl) | (apply L.ends3; exact rfl; exact rfl; exact rfl) | (apply L.ends1A; exact rfl; exact rfl; exact rfl) | (apply L.ends2A; exact rfl; exact rfl; exact rfl) | (apply L.ends3A; exact rfl; exact rfl; exact rfl))
      all_goals rfl
    | true =>
    rw [hq] at knN
    rw [if_neg (show ¬ (true = false) by decide)]
    cases is with
    | false =>
      rw [if_pos (show (false = false ∨ colM tt col < 0) from .inl rfl), if_pos (show (3 : Int) ≠ 0 by decide)]
      (repeat' (first | (refine LW.is ?_; first | (apply s_callG; exact rfl; exact hG; (first | exact kg | exact kc | exact knN); exact rfl; exact rfl) | (apply s_call0; exact rfl; (first | exact ke | exact kfT | exact kcol); exact rfl; exact rfl) | (apply s_vr; exact rfl; apply v_makeFunc; exact rfl) | (apply s_callG1 (q := 3); exact rfl; exact hG; exact kx; exact rfl; exact rfl; exact rfl; exact rfl; exact rfl; exact rfl; exact rfl) | refine s_v ?_ | refine s_m ?_ | refine s_nil ?_ | refine s_gd ?_ | (refine s_gsplit rfl rfl rfl (fun hb => ?_) (fun hb => ?_) <;> refine fct hb (fun hp => ?_))) | (refine DR.is ?_; first | (apply d_callG; exact rfl; exact hG; (first | exact kg | exact kc | exact knN); exact rfl; exact rfl) | (apply d_call0; exact rfl; (first | exact ke | exact kfT | exact kcol); exact rfl; exact rfl) | (apply d_vr; exact rfl; apply v_makeFunc; exact rfl) | (apply d_callG1 (q := 3); exact rfl; exact hG; exact kx; exact rfl; exact rfl; exact rfl; exact rfl; exact rfl; exact rfl; exact rfl) | refine d_v ?_ | refine d_m ?_ | (apply d_nil; kernel_rfl) | refine d_gd ?_ | (refine d_gsplit rfl rfl rfl (fun hb => ?_) (fun hb => ?_) <;> refine fct hb (fun hp => ?_))) | refine c_go ?_ | refine s_region ?_ | refine d_region ?_ | (refine L.cond rfl (fun hb => ?_) (fun hb => ?_) <;> refine fct hb (fun hp => ?_))))
      all_goals (first | (apply L.ends1; exact rfl; exact rfl; exact rfl) | (apply L.ends2; exact rfl; exact rfl; exact rfl) | (apply L.ends3; exact rfl; exact rfl; exact rfl) | (apply L.ends1A; exact rfl; exact rfl; exact rfl) | (apply L.ends2A; exact rfl; exact rfl; exact rfl) | (apply L.ends3A; exact rfl; exact rfl; exact rfl))
      all_goals rfl
    | true =>
    by_cases hc0 : colM tt col < 0
    · have qc : decide (colM tt col < 0) = true := decide_eq_true hc0
      rw [if_pos (show (true = false ∨ colM tt col < 0) from .inr hc0), if_pos (show (3 : Int) ≠ 0 by decide)]
      (repeat' (first | (refine LW.is ?_; first | (apply s_callG; exact rfl; exact hG; (first | exact kg | exact kc | exact knN); exact rfl; exact rfl) | (apply s_call0; exact rfl; (first | exact ke | exact kfT | exact kcol); exact rfl; exact rfl) | (apply s_vr; exact rfl; apply v_makeFunc; exact rfl) | (apply s_callG1 (q := 3); exact rfl; exact hG; exact kx; exact rfl; exact rfl; exact rfl; exact rfl; exact rfl; exact rfl; exact rfl) | refine s_v ?_ | refine s_m ?_ | refine s_nil ?_ | refine s_gd ?_ | (refine s_gsplit rfl rfl rfl (fun hb => ?_) (fun hb => ?_) <;> refine fct hb (fun hp => ?_))) | (refine DR.is ?_; first | (apply d_callG; exact rfl; exact hG; (first | exact kg | exact kc | exact knN); exact rfl; exact rfl) | (apply d_call0; exact rfl; (first | exact ke | exact kfT | exact kcol); exact rfl; exact rfl) | (apply d_vr; exact rfl; apply v_makeFunc; exact rfl) | (apply d_callG1 (q := 3); exact rfl; exact hG; exact kx; exact rfl; exact rfl; exact rfl; exact rfl; exact rfl; exact rfl; exact rfl) | refine d_v ?_ | refine d_m ?_ | (apply d_nil; kernel_rfl) | refine d_gd ?_ | (refine d_gsplit rfl rfl rfl (fun hb => ?_) (fun hb => ?_) <;> refine fct hb (fun hp => ?_))) | refine c_go ?_ | refine s_region ?_ | refine d_region ?_ | (refine L.cond rfl (fun hb => ?_) (fun hb => ?_) <;> refine fct hb (fun hp => ?_))))
      all_goals (first | (apply L.ends1; exact rfl; exact rfl; exact rfl) | (apply L.ends2; exact rfl; exact rfl; exact rfl) | (apply L.ends3; exact rfl; exact rfl; exact rfl) | (apply L.ends1A; exact rfl; exact rfl; exact rfl) | (apply L.ends2A; exact rfl; exact rfl; exact rfl) | (apply L.ends3A; exact rfl; exact rfl; exact rfl))
      all_goals rfl
    have qc : decide (colM tt col < 0) = false := decide_eq_false hc0
    rw [if_neg (show ¬ (true = false ∨ colM tt col < 0) by simp [hc0])]
    cases ha : c.is.any (fun x => x.n == name) with
    | true =>
      rw [ha] at kx
      rw [if_pos rfl, if_pos (show (4 : Int) ≠ 0 by decide)]
      (repeat' (first | (refine LW.is ?_; first | (apply s_callG; exact rfl; exact hG; (first | exact kg | exact kc | exact knN); exact rfl; exact rfl) | (apply s_call0; exact rfl; (first | exact ke | exact kfT | exact kcol); exact rfl; exact rfl) | (apply s_vr; exact rfl; apply v_makeFunc; exact rfl) | (apply s_callG1 (q := 3); exact rfl; exact hG; exact kx; exact rfl; exact rfl; exact rfl; exact rfl; exact rfl; exact rfl; exact rfl) | refine s_v ?_ | refine s_m ?_ | refine s_nil ?_ | refine s_gd ?_ | (refine s_gsplit rfl rfl rfl (fun hb => ?_) (fun hb => ?_) <;> refine fct hb (fun hp => ?_))) | (refine DR.is ?_; first | (apply d_callG; exact rfl; exact hG; (first | exact kg | exact kc | exact knN); exact rfl; exact rfl) | (apply d_call0; exact rfl; (first | exact ke | exact kfT | exact kcol); exact rfl; exact rfl) | (apply d_vr; exact rfl; apply v_makeFunc; exact rfl) | (apply d_callG1 (q := 3); exact rfl; exact hG; exact kx; exact rfl; exact rfl; exact rfl; exact rfl; exact rfl; exact rfl; exact rfl) | refine d_v ?_ | refine d_m ?_ | (apply d_nil; kernel_rfl) | refine d_gd ?_ | (refine d_gsplit rfl rfl rfl (fun hb => ?_) (fun hb => ?_) <;> refine fct hb (fun hp => ?_))) | refine c_go ?_ | refine s_region ?_ | refine d_region ?_ | (refine L.cond rfl (fun hb => ?_) (fun hb => ?_) <;> refine fct hb (fun hp => ?_))))
      all_goals (first | (apply L.ends1; exact rfl; exact rfl; exact rfl) | (apply L.ends2; exact rfl; exact rfl; exact rfl) | (apply L.ends3; exact rfl; exact rfl; exact rfl) | (apply L.ends1A; exact rfl; exact rfl; exact rfl) | (apply L.ends2A; exact rfl; exact rfl; exact rfl) | (apply L.ends3A; exact rfl; exact rfl; exact rfl))
      all_goals rfl
    | false =>
    rw [ha] at kx
    rw [if_neg (show ¬ (false = true) by decide)]
    by_cases h4 : 4 ≤ c.is.length
    · have q3 : decide ((4 : Int) ≤ ((c.is.map Idx.c).length : Int)) = true := decide_eq_true (by rw [lis]; omega)
      rw [if_pos h4, if_pos (show (8 : Int) ≠ 0 by decide)]
      (repeat' (first | (refine LW.is ?_; first | (apply s_callG; exact rfl; exact hG; (first | exact kg | exact kc | exact knN); exact rfl; exact rfl) | (apply s_call0; exact rfl; (first | exact ke | exact kfT | exact kcol); exact rfl; exact rfl) | (apply s_vr; exact rfl; apply v_makeFunc; exact rfl) | (apply s_callG1 (q := 3); exact rfl; exact hG; exact kx; exact rfl; exact rfl; exact rfl; exact rfl; exact rfl; exact rfl; exact rfl) | refine s_v ?_ | refine s_m ?_ | refine s_nil ?_ | refine s_gd ?_ | (refine s_gsplit rfl rfl rfl (fun hb => ?_) (fun hb => ?_) <;> refine fct hb (fun hp => ?_))) | (refine DR.is ?_; first | (apply d_callG; exact rfl; exact hG; (first | exact kg | exact kc | exact knN); exact rfl; exact rfl) | (apply d_call0; exact rfl; (first | exact ke | exact kfT | exact kcol); exact rfl; exact rfl) | (apply d_vr; exact rfl; apply v_makeFunc; exact rfl) | (apply d_callG1 (q := 3); exact rfl; exact hG; exact kx; exact rfl; exact rfl; exact rfl; exact rfl; exact rfl; exact rfl; exact rfl) | refine d_v ?_ | refine d_m ?_ | (apply d_nil; kernel_rfl) | refine d_gd ?_ | (refine d_gsplit rfl rfl rfl (fun hb => ?_) (fun hb => ?_) <;> refine fct hb (fun hp => ?_))) | refine c_go ?_ | refine s_region ?_ | refine d_region ?_ | (refine L.cond rfl (fun hb => ?_) (fun hb => ?_) <;> refine fct hb (fun hp => ?_))))
      all_goals (first | (apply L.ends1; exact rfl; exact rfl; exact rfl) | (apply L.ends2; exact rfl; exact rfl; exact rfl) | (apply L.ends3; exact rfl; exact rfl; exact rfl) | (apply L.ends1A; exact rfl; exact rfl; exact rfl) | (apply L.ends2A; exact rfl; exact rfl; exact rfl) | (apply L.ends3A; exact rfl; exact rfl; exact rfl))
      all_goals rfl
    · have q3 : decide ((4 : Int) ≤ ((c.is.map Idx.c).length : Int)) = false := decide_eq_false (by rw [lis]; omega)
      rw [if_neg h4, if_neg (show ¬ ((0 : Int) ≠ 0) by decide)]
      (repeat' (first | (refine LW.is ?_; first | (apply s_callG; exact rfl; exact hG; (first | exact kg | exact kc | exact knN); exact rfl; exact rfl) | (apply s_call0; exact rfl; (first | exact ke | exact kfT | exact kcol); exact rfl; exact rfl) | (apply s_vr; exact rfl; apply v_makeFunc; exact rfl) | (apply s_callG1 (q := 3); exact rfl; exact hG; exact kx; exact rfl; exact rfl; exact rfl; exact rfl; exact rfl; exact rfl; exact rfl) | refine s_v ?_ | refine s_m ?_ | refine s_nil ?_ | refine s_gd ?_ | (refine s_gsplit rfl rfl rfl (fun hb => ?_) (fun hb => ?_) <;> refine fct hb (fun hp => ?_))) | (refine DR.is ?_; first | (apply d_callG; exact rfl; exact hG; (first | exact kg | exact kc | exact knN); exact rfl; exact rfl) | (apply d_call0; exact rfl; (first | exact ke | exact kfT | exact kcol); exact rfl; exact rfl) | (apply d_vr; exact rfl; apply v_makeFunc; exact rfl) | (apply d_callG1 (q := 3); exact rfl; exact hG; exact kx; exact rfl; exact rfl; exact rfl; exact rfl; exact rfl; exact rfl; exact rfl) | refine d_v ?_ | refine d_m ?_ | (apply d_nil; kernel_rfl) | refine d_gd ?_ | (refine d_gsplit rfl rfl rfl (fun hb => ?_) (fun hb => ?_) <;> refine fct hb (fun hp => ?_))) | refine c_go ?_ | refine s_region ?_ | refine d_region ?_ | (refine L.cond rfl (fun hb => ?_) (fun hb => ?_) <;> refine fct hb (fun hp => ?_))))
      all_goals (first | (apply L.ends1; exact rfl; exact rfl; exact rfl) | (apply L.ends2; exact rfl; exact rfl; exact rfl) | (apply L.ends3; exact rfl; exact rfl; exact rfl) | (apply L.ends1A; exact rfl; exact rfl; exact rfl) | (apply L.ends2A; exact rfl; exact rfl; exact rfl) | (apply L.ends3A; exact rfl; exact rfl; exact rfl))
      all_goals rfl
  · -- drop
    rw [show preM c s = (s, if (findT c s.name).2 then 0 else 3) by rw [preM, if_neg (by rw [hk]; decide), if_neg (by rw [hk]; decide), if_pos hk]]
    obtain ⟨kind, name, table, col, cols, rows, sets, frm, out, wh, ord, down, n⟩ := s
    dsimp only at hk kg ke kc kfT kfN ⊢
    subst hk
    clear kch kcg hcc hgt hok kgt knN kx
    generalize findT c table = ft at *
    generalize findT c name = fn at *
    obtain ⟨tt, is⟩ := ft
    obtain ⟨tn, there⟩ := fn
    dsimp only at *
    cases there with
    | false =>
      rw [if_pos (show ((if false = true then (0 : Int) else 3) ≠ 0) by decide)]
      (repeat' (first | (refine LW.is ?_; first | (apply s_callG; exact rfl; exact hG; (first | exact kg | exact kc); exact rfl; exact rfl) | (apply s_call0; exact rfl; (first | exact ke | exact kfT); exact rfl; exact rfl) | (apply s_call0; exact rfl; exact kfN; exact rfl; exact rfl) | refine s_v ?_ | refine s_m ?_ | refine s_nil ?_ | refine s_gd ?_ | (refine s_gsplit rfl rfl rfl (fun hb => ?_) (fun hb => ?_) <;> refine fct hb (fun hp => ?_))) | (refine DR.is ?_; first | (apply d_callG; exact rfl; exact hG; (first | exact kg | exact kc); exact rfl; exact rfl) | (apply d_call0; exact rfl; (first | exact ke | exact kfT); exact rfl; exact rfl) | (apply d_call0; exact rfl; exact kfN; exact rfl; exact rfl) | refine d_v ?_ | refine d_m ?_ | (apply d_nil; kernel_rfl) | refine d_gd ?_ | (refine d_gsplit rfl rfl rfl (fun hb => ?_) (fun hb => ?_) <;> refine fct hb (fun hp => ?_))) | refine c_go ?_ | refine s_region ?_ | refine d_region ?_ | (refine L.cond rfl (fun hb => ?_) (fun hb => ?_) <;> refine fct hb (fun hp => ?_))))
      all_goals (first | (apply L.ends1; exact rfl; exact rfl; exact rfl) | (apply L.ends2; exact rfl; exact rfl; exact rfl) | (apply L.ends3; exact rfl; exact rfl; exact rfl) | (apply L.ends1A; exact rfl; exact rfl; exact rfl) | (apply L.ends2A; exact rfl; exact rfl; exact rfl) | (apply L.ends3A; exact rfl; exact rfl; exact rfl))
      all_goals rfl
    | true =>
      rw [if_neg (show ¬ ((if true = true then (0 : Int) else 3) ≠ 0) by decide)]
      (repeat' (first | (refine LW.is ?_; first | (apply s_callG; exact rfl; exact hG; (first | exact kg | exact kc); exact rfl; exact rfl) | (apply s_call0; exact rfl; (first | exact ke | exact kfT); exact rfl; exact rfl) | (apply s_call0; exact rfl; exact kfN; exact rfl; exact rfl) | refine s_v ?_ | refine s_m ?_ | refine s_nil ?_ | refine s_gd ?_ | (refine s_gsplit rfl rfl rfl (fun hb => ?_) (fun hb => ?_) <;> refine fct hb (fun hp => ?_))) | (refine DR.is ?_; first | (apply d_callG; exact rfl; exact hG; (first | exact kg | exact kc); exact rfl; exact rfl) | (apply d_call0; exact rfl; (first | exact ke | exact kfT); exact rfl; exact rfl) | (apply d_call0; exact rfl; exact kfN; exact rfl; exact rfl) | refine d_v ?_ | refine d_m ?_ | (apply d_nil; kernel_rfl) | refine d_gd ?_ | (refine d_gsplit rfl rfl rfl (fun hb => ?_) (fun hb => ?_) <;> refine fct hb (fun hp => ?_))) | refine c_go ?_ | refine s_region ?_ | refine d_region ?_ | (refine L.cond rfl (fun hb => ?_) (fun hb => ?_) <;> refine fct hb (fun hp => ?_))))
      all_goals (first | (apply L.ends1; exact rfl; exact rfl; exact rfl) | (apply L.ends2; exact rfl; exact rfl; exact rfl) | (apply L.ends3; exact rfl; exact rfl; exact rfl) | (apply L.ends1A; exact rfl; exact rfl; exact rfl) | (apply L.ends2A; exact rfl; exact rfl; exact rfl) | (apply L.ends3A; exact rfl; exact rfl; exact rfl))
      all_goals rfl
  iterate 3
    · -- insert, delete, update
      rw [show preM c s = if (findT c s.table).2 then changeM s (findT c s.table).1 else (s, 3) by rw [preM, if_neg (by rw [hk]; decide), if_neg (by rw [hk]; decide), if_neg (by rw [hk]; decide), if_neg (by rw [hk]; decide)]]
      generalize hm : changeM s (findT c s.table).1 = m at *
      obtain ⟨kind, name, table, col, cols, rows, sets, frm, out, wh, ord, down, n⟩ := s
      dsimp only at hk kg ke kc kfT kcg ⊢
      subst hk
      clear hm kch hcc hgt hok kgt knN kx kfN
      generalize findT c table = ft at *
      obtain ⟨tt, is⟩ := ft
      obtain ⟨m1, m2⟩ := m
      dsimp only at *
      cases is with
      | false =>
        rw [if_neg (show ¬ (false = true) by decide), if_pos (show (3 : Int) ≠ 0 by decide)]
        (repeat' (first | (refine LW.is ?_; first | (apply s_callG; exact rfl; exact hG; (first | exact kg | exact kc); exact rfl; exact rfl) | (apply s_call0; exact rfl; (first | exact ke | exact kfT); exact rfl; exact rfl) | (apply s_call0; exact rfl; exact kfN; exact rfl; exact rfl) | refine s_v ?_ | refine s_m ?_ | refine s_nil ?_ | refine s_gd ?_ | (refine s_gsplit rfl rfl rfl (fun hb => ?_) (fun hb => ?_) <;> refine fct hb (fun hp => ?_))) | (refine DR.is ?_; first | (apply d_callG; exact rfl; exact hG; (first | exact kg | exact kc); exact rfl; exact rfl) | (apply d_call0; exact rfl; (first | exact ke | exact kfT); exact rfl; exact rfl) | (apply d_call0; exact rfl; exact kfN; exact rfl; exact rfl) | refine d_v ?_ | refine d_m ?_ | (apply d_nil; kernel_rfl) | refine d_gd ?_ | (refine d_gsplit rfl rfl rfl (fun hb => ?_) (fun hb => ?_) <;> refine fct hb (fun hp => ?_))) | refine c_go ?_ | refine s_region ?_ | refine d_region ?_ | (refine L.cond rfl (fun hb => ?_) (fun hb => ?_) <;> refine fct hb (fun hp => ?_))))
        all_goals (first | (apply L.ends1; exact rfl; exact rfl; exact rfl) | (apply L.ends2; exact rfl; exact rfl; exact rfl) | (apply L.ends3; exact rfl; exact rfl; exact rfl) | (apply L.ends1A; exact rfl; exact rfl; exact rfl) | (apply L.ends2A; exact rfl; exact rfl; exact rfl) | (apply L.ends3A; exact rfl; exact rfl; exact rfl))
        all_goals rfl
      | true =>
      rw [if_pos rfl]
      by_cases hm2 : m2 = 0
      · subst hm2
        rw [if_neg (show ¬ ((0 : Int) ≠ 0) by decide)]
        (repeat' (first | (refine LW.is ?_; first | (apply s_callG; exact rfl; exact hG; (first | exact kg | exact kc); exact rfl; exact rfl) | (apply s_call0; exact rfl; (first | exact ke | exact kfT | exact kcg); exact rfl; exact rfl) | refine s_v ?_ | refine s_m ?_ | refine s_nil ?_ | refine s_gd ?_ | (refine s_gsplit rfl rfl rfl (fun hb => ?_) (fun hb => ?_) <;> refine fct hb (fun hp => ?_))) | (refine DR.is ?_; first | (apply d_callG; exact rfl; exact hG; (first | exact kg | exact kc); exact rfl; exact rfl) | (apply d_call0; exact rfl; (first | exact ke | exact kfT | exact kcg); exact rfl; exact rfl) | refine d_v ?_ | refine d_m ?_ | (apply d_nil; kernel_rfl) | refine d_gd ?_ | (refine d_gsplit rfl rfl rfl (fun hb => ?_) (fun hb => ?_) <;> refine fct hb (fun hp => ?_))) | refine c_go ?_ | refine s_region ?_ | refine d_region ?_ | (refine L.cond rfl (fun hb => ?_) (fun hb => ?_) <;> refine fct hb (fun hp => ?_))))
        all_goals (first | (apply L.ends1; exact rfl; exact rfl; exact rfl) | (apply L.ends2; exact rfl; exact rfl; exact rfl) | (apply L.ends3; exact rfl; exact rfl; exact rfl) | (apply L.ends1A; exact rfl; exact rfl; exact rfl) | (apply L.ends2A; exact rfl; exact rfl; exact rfl) | (apply L.ends3A; exact rfl; exact rfl; exact rfl))
        all_goals rfl
      · have qm : (m2 != 0) = true := by simpa using hm2
        rw [if_pos hm2]
        (repeat' (first | (refine LW.is ?_; first | (apply s_callG; exact rfl; exact hG; (first | exact kg | exact kc); exact rfl; exact rfl) | (apply s_call0; exact rfl; (first | exact ke | exact kfT | exact kcg); exact rfl; exact rfl) | refine s_v ?_ | refine s_m ?_ | refine s_nil ?_ | refine s_gd ?_ | (refine s_gsplit rfl rfl rfl (fun hb => ?_) (fun hb => ?_) <;> refine fct hb (fun hp => ?_))) | (refine DR.is ?_; first | (apply d_callG; exact rfl; exact hG; (first | exact kg | exact kc); exact rfl; exact rfl) | (apply d_call0; exact rfl; (first | exact ke | exact kfT | exact kcg); exact rfl; exact rfl) | refine d_v ?_ | refine d_m ?_ | (apply d_nil; kernel_rfl) | refine d_gd ?_ | (refine d_gsplit rfl rfl rfl (fun hb => ?_) (fun hb => ?_) <;> refine fct hb (fun hp => ?_))) | refine c_go ?_ | refine s_region ?_ | refine d_region ?_ | (refine L.cond rfl (fun hb => ?_) (fun hb => ?_) <;> refine fct hb (fun hp => ?_))))
        all_goals (first | (apply L.ends1; exact rfl; exact rfl; exact rfl) | (apply L.ends2; exact rfl; exact rfl; exact rfl) | (apply L.ends3; exact rfl; exact rfl; exact rfl) | (apply L.ends1A; exact rfl; exact rfl; exact rfl) | (apply L.ends2A; exact rfl; exact rfl; exact rfl) | (apply L.ends3A; exact rfl; exact rfl; exact rfl))
        all_goals rfl
  · -- select
    rw [show preM c s = chooseM c s by rw [preM, if_neg (by rw [hk]; decide), if_neg (by rw [hk]; decide), if_neg (by rw [hk]; decide), if_pos hk]]
    generalize chooseM c s = m at *
    obtain ⟨kind, name, table, col, cols, rows, sets, frm, out, wh, ord, down, n⟩ := s
    dsimp only at hk kg ke kc kfT kch ⊢
    subst hk
    clear kcg hcc hgt hok kgt knN kx kfN
    generalize findT c table = ft at *
    obtain ⟨tt, is⟩ := ft
    obtain ⟨m1, m2⟩ := m
    dsimp only at *
    by_cases hm2 : m2 = 0
    · subst hm2
      rw [if_neg (show ¬ ((0 : Int) ≠ 0) by decide)]
      (repeat' (first | (refine LW.is ?_; first | (apply s_callG; exact rfl; exact hG; (first | exact kg | exact kc); exact rfl; exact rfl) | (apply s_call0; exact rfl; (first | exact ke | exact kfT | exact kch); exact rfl; exact rfl) | refine s_v ?_ | refine s_m ?_ | refine s_nil ?_ | refine s_gd ?_ | (refine s_gsplit rfl rfl rfl (fun hb => ?_) (fun hb => ?_) <;> refine fct hb (fun hp => ?_))) | (refine DR.is ?_; first | (apply d_callG; exact rfl; exact hG; (first | exact kg | exact kc); exact rfl; exact rfl) | (apply d_call0; exact rfl; (first | exact ke | exact kfT | exact kch); exact rfl; exact rfl) | refine d_v ?_ | refine d_m ?_ | (apply d_nil; kernel_rfl) | refine d_gd ?_ | (refine d_gsplit rfl rfl rfl (fun hb => ?_) (fun hb => ?_) <;> refine fct hb (fun hp => ?_))) | refine c_go ?_ | refine s_region ?_ | refine d_region ?_ | (refine L.cond rfl (fun hb => ?_) (fun hb => ?_) <;> refine fct hb (fun hp => ?_))))
      all_goals (first | (apply L.ends1; exact rfl; exact rfl; exact rfl) | (apply L.ends2; exact rfl; exact rfl; exact rfl) | (apply L.ends3; exact rfl; exact rfl; exact rfl) | (apply L.ends1A; exact rfl; exact rfl; exact rfl) | (apply L.ends2A; exact rfl; exact rfl; exact rfl) | (apply L.ends3A; exact rfl; exact rfl; exact rfl))
      all_goals rfl
    · have qm : (m2 != 0) = true := by simpa using hm2
      rw [if_pos hm2]
      (repeat' (first | (refine LW.is ?_; first | (apply s_callG; exact rfl; exact hG; (first | exact kg | exact kc); exact rfl; exact rfl) | (apply s_call0; exact rfl; (first | exact ke | exact kfT | exact kch); exact rfl; exact rfl) | refine s_v ?_ | refine s_m ?_ | refine s_nil ?_ | refine s_gd ?_ | (refine s_gsplit rfl rfl rfl (fun hb => ?_) (fun hb => ?_) <;> refine fct hb (fun hp => ?_))) | (refine DR.is ?_; first | (apply d_callG; exact rfl; exact hG; (first | exact kg | exact kc); exact rfl; exact rfl) | (apply d_call0; exact rfl; (first | exact ke | exact kfT | exact kch); exact rfl; exact rfl) | refine d_v ?_ | refine d_m ?_ | (apply d_nil; kernel_rfl) | refine d_gd ?_ | (refine d_gsplit rfl rfl rfl (fun hb => ?_) (fun hb => ?_) <;> refine fct hb (fun hp => ?_))) | refine c_go ?_ | refine s_region ?_ | refine d_region ?_ | (refine L.cond rfl (fun hb => ?_) (fun hb => ?_) <;> refine fct hb (fun hp => ?_))))
      all_goals (first | (apply L.ends1; exact rfl; exact rfl; exact rfl) | (apply L.ends2; exact rfl; exact rfl; exact rfl) | (apply L.ends3; exact rfl; exact rfl; exact rfl) | (apply L.ends1A; exact rfl; exact rfl; exact rfl) | (apply L.ends2A; exact rfl; exact rfl; exact rfl) | (apply L.ends3A; exact rfl; exact rfl; exact rfl))
      all_goals rfl
end Go.Proofs.YthkobnpogigkiaaDoor
/- Ways to rows: what rows, entries, key, RowKey, IndexKey, All, first and fits compute. Conditions: how much there is of what comes in. -/
namespace Go.Proofs.YthkobnpogigkiaaDoor
open Go.Abs
set_option maxRecDepth 100000
attribute [local irreducible] L Code.wp bodyPost Exit.then Exit.inBlock
set_option linter.unusedVariables false
set_option linter.unusedSimpArgs false
def fitV (c : Col) (v : Val) : Bool := !(!goodM v || ((v.k != c.t) && (c.m || (v.k != 0))))
def fitsFrom (row : List Val) (i : Nat) (cs : List Col) : Bool := (cs.zipIdx i).all (fun p => fitV p.1 (row.getD p.2 nilV))
def fitsM (t : Tab) (row : List Val) : Bool := row.length == t.cols.length && fitsFrom row 0 t.cols
set_option maxRecDepth 100000 in
set_option maxHeartbeats 4000000 in
theorem fits_any (t : Tab) (row : List Val) (hl : t.cols.length ≤ 140737488355328) : CallA Tryd.prog 11 [.agg (t.c.map .iv), .iv (.sl (row.map Val.c))] [] [] [] (aB (fitsM t row)) := by
  refine CallA.intro _ Tryd.func11 rfl Tryd.ntmps11 rfl (fun w0 E0 => ?_)
  by_cases hrl : row.length = t.cols.length
  · have hz : ((((row.map Val.c).length : Nat) : Int) != (((t.cols.map Col.c).length : Nat) : Int)) = false := by simp [hrl]
    have e : fitsM t row = fitsFrom row 0 t.cols := by simp [fitsM, hrl]
    rw [e]
    (repeat' (first | (refine LW.is ?_; first | refine s_v ?_ | refine s_m ?_ | refine s_nil ?_ | refine s_gd ?_ | (refine s_gsplit rfl rfl rfl (fun hb => ?_) (fun hb => ?_) <;> refine fct hb (fun hp => ?_))) | (refine DR.is ?_; first | refine d_v ?_ | refine d_m ?_ | (apply d_nil; kernel_rfl) | refine d_gd ?_ | (refine d_gsplit rfl rfl rfl (fun hb => ?_) (fun hb => ?_) <;> refine fct hb (fun hp => ?_))) | refine c_go ?_ | refine s_region ?_ | refine d_region ?_ | (refine L.cond rfl (fun hb => ?_) (fun hb => ?_) <;> refine fct hb (fun hp => ?_))))
    refine L.loopP (ι := Nat) (fun i => ⟨[(16, aI (i : Int)), (15, aI ((t.cols.map Col.c).length : Int)), (14, .iv (.sl (t.cols.map Col.c))), (1, .iv (.sl (row.map Val.c)))], [], []⟩) (fun i => t.cols.length - i) (fun i => fitsFrom row 0 t.cols = fitsFrom row i (t.cols.drop i)) (i0 := 0) ?_ rfl ?_
    · (refine Wk.mk' (by intro id h; cases h) ?_ ?_ ?_ <;> repeat' (first | exact WkF.nil | exact WkB.nil | exact WkT.nil | (refine WkF.cons rfl (Sub.refl _) ?_) | (refine WkB.cons rfl rfl (Subs.refl _) ?_) | (refine WkT.cons rfl ?_)))
    intro i hI K hK
    cases hx : t.cols[i]? with
    | none =>
      have hlt := ltF (l := t.cols.map Col.c) (getFN hx)
      rw [dropN hx] at hI
      (repeat' (first | (refine LW.is ?_; first | refine s_v ?_ | refine s_m ?_ | refine s_nil ?_ | refine s_gd ?_ | (refine s_gsplit rfl rfl rfl (fun hb => ?_) (fun hb => ?_) <;> refine fct hb (fun hp => ?_))) | (refine DR.is ?_; first | refine d_v ?_ | refine d_m ?_ | (apply d_nil; kernel_rfl) | refine d_gd ?_ | (refine d_gsplit rfl rfl rfl (fun hb => ?_) (fun hb => ?_) <;> refine fct hb (fun hp => ?_))) | refine c_go ?_ | refine s_region ?_ | refine d_region ?_ | (refine L.cond rfl (fun hb => ?_) (fun hb => ?_) <;> refine fct hb (fun hp => ?_))))
      all_goals (first | (apply L.ends1; exact rfl; exact rfl; exact rfl) | (apply L.ends2; exact rfl; exact rfl; exact rfl) | (apply L.ends3; exact rfl; exact rfl; exact rfl) | (apply L.ends1A; exact rfl; exact rfl; exact rfl) | (apply L.ends2A; exact rfl; exact rfl; exact rfl))
      rw [hI]; rfl
    | some y =>
      have hlt := ltT (l := t.cols.map Col.c) (getF (f := Col.c) hx)
      have hlt' := ltN hx
      have g1 : (t.cols.map Col.c)[((i : Nat) : Int).toNat]? = some [S y.n, I y.t, .im (.bool y.m)] := by rw [Int.toNat_natCast, List.getElem?_map, hx]; rfl
      have g2 : (row.map Val.c)[((i : Nat) : Int).toNat]? = some [I (row.getD i nilV).k, I (row.getD i nilV).n, S (row.getD i nilV).s] := by rw [Int.toNat_natCast, List.getElem?_map, getD_some nilV (show i < row.length by omega)]; rfl
      have kg := good_any (row.getD i nilV)
      have hI : fitsFrom row 0 t.cols = (fitV y (row.getD i nilV) && fitsFrom row (i + 1) (t.cols.drop (i + 1))) := by rw [hI, dropC hx]; rfl
      generalize row.getD i nilV = v at *
      (repeat' (first | (refine LW.is ?_; first | (apply s_vr; exact rfl; apply v_indexA; exact rfl; exact rfl; omega; (first | exact g1 | exact g2); exact rfl) | (apply s_call0; exact rfl; exact kg; exact rfl; exact rfl) | refine s_v ?_ | refine s_m ?_ | refine s_nil ?_ | refine s_gd ?_ | (refine s_gsplit rfl rfl rfl (fun hb => ?_) (fun hb => ?_) <;> refine fct hb (fun hp => ?_))) | (refine DR.is ?_; first | (apply d_vr; exact rfl; apply v_indexA; exact rfl; exact rfl; omega; (first | exact g1 | exact g2); exact rfl) | (apply d_call0; exact rfl; exact kg; exact rfl; exact rfl) | refine d_v ?_ | refine d_m ?_ | (apply d_nil; kernel_rfl) | refine d_gd ?_ | (refine d_gsplit rfl rfl rfl (fun hb => ?_) (fun hb => ?_) <;> refine fct hb (fun hp => ?_))) | refine c_go ?_ | refine s_region ?_ | refine d_region ?_ | (refine L.cond rfl (fun hb => ?_) (fun hb => ?_) <;> refine fct hb (fun hp => ?_))))
      all_goals try (first | (apply L.ends1; exact rfl; exact rfl; exact rfl) | (apply L.ends2; exact rfl; exact rfl; exact rfl) | (apply L.ends3; exact rfl; exact rfl; exact rfl) | (apply L.ends1A; exact rfl; exact rfl; exact rfl) | (apply L.ends2A; exact rfl; exact rfl; exact rfl))
      all_goals try (have hc : fitV y v = false := (by clear hI; rw [fitV]; (first | (simp only [*, Bool.true_and, Bool.and_true, Bool.false_or, Bool.or_false, Bool.or_true, Bool.true_or, Bool.false_and, Bool.and_false, Bool.not_true, Bool.not_false, decide_true, decide_false]; done) | (simp only [*, Bool.true_and, Bool.and_true, Bool.false_or, Bool.or_false, Bool.or_true, Bool.true_or, Bool.false_and, Bool.and_false, Bool.not_true, Bool.not_false, decide_true, decide_false]; simp; done) | (simp [*]; done) | (simp_all; done))); rw [hI, hc]; rfl)
      all_goals (refine hK _ (i + 1) ?_ (by omega) ?_)
      all_goals try (refine Wk.mk' (by intro id h; cases h) ?_ ?_ ?_ <;> repeat' (first | exact WkF.nil | exact WkB.nil | exact WkT.nil | (refine WkF.cons rfl (Sub.refl _) ?_) | (refine WkB.cons rfl rfl (Subs.refl _) ?_) | (refine WkT.cons rfl ?_)))
      all_goals (rw [hI]; have hc : fitV y v = true := (by clear hI; rw [fitV]; (first | (simp only [*, Bool.true_and, Bool.and_true, Bool.false_or, Bool.or_false, Bool.or_true, Bool.true_or, Bool.false_and, Bool.and_false, Bool.not_true, Bool.not_false, decide_true, decide_false]; done) | (simp only [*, Bool.true_and, Bool.and_true, Bool.false_or, Bool.or_false, Bool.or_true, Bool.true_or, Bool.false_and, Bool.and_false, Bool.not_true, Bool.not_false, decide_true, decide_false]; simp; done) | (simp [*]; done) | (simp_all; done))); simp only [hc, Bool.true_and])
  · have hz : ((((row.map Val.c).length : Nat) : Int) != (((t.cols.map Col.c).length : Nat) : Int)) = true := by simp; omega
    have e : fitsM t row = false := by simp [fitsM, hrl]
    rw [e]
    (repeat' (first | (refine LW.is ?_; first | refine s_v ?_ | refine s_m ?_ | refine s_nil ?_ | refine s_gd ?_ | (refine s_gsplit rfl rfl rfl (fun hb => ?_) (fun hb => ?_) <;> refine fct hb (fun hp => ?_))) | (refine DR.is ?_; first | refine d_v ?_ | refine d_m ?_ | (apply d_nil; kernel_rfl) | refine d_gd ?_ | (refine d_gsplit rfl rfl rfl (fun hb => ?_) (fun hb => ?_) <;> refine fct hb (fun hp => ?_))) | refine c_go ?_ | refine s_region ?_ | refine d_region ?_ | (refine L.cond rfl (fun hb => ?_) (fun hb => ?_) <;> refine fct hb (fun hp => ?_))))
    all_goals (first | (apply L.ends1; exact rfl; exact rfl; exact rfl) | (apply L.ends2; exact rfl; exact rfl; exact rfl) | (apply L.ends3; exact rfl; exact rfl; exact rfl) | (apply L.ends1A; exact rfl; exact rfl; exact rfl) | (apply L.ends2A; exact rfl; exact rfl; exact rfl))
    all_goals rfl
end Go.Proofs.YthkobnpogigkiaaDoor
/- Commands, bound, plain laws: what a bound expression comes to is of its type. Conditions: none. -/
namespace Go.Proofs.YthkobnpogigkiaaDoor
open Go.Abs
set_option linter.unusedVariables false
set_option linter.unusedSimpArgs false
def okT (ty : Int) (v : Val) : Prop := (v.k = 0 ∨ v.k = ty) ∧ (ty ≠ 3 → goodM v = true)
theorem okT_nil (ty : Int) : okT ty nilV := ⟨.inl rfl, fun _ => by decide⟩
theorem okT_truth (n : Int) : okT 3 (truthM n) := by
  unfold truthM
  split
  · exact ⟨.inr rfl, fun h => absurd rfl h⟩
  · exact okT_nil 3
theorem okT_sum (op : Int) (a b : Val) : okT 1 (sumM op a b) := by
  unfold sumM
  simp only
  generalize (if op = 4 then a.n - b.n else a.n + b.n) = n
  cases h : goodM ⟨1, n, []⟩ with
  | true => rw [if_pos rfl]; exact ⟨.inr rfl, fun _ => h⟩
  | false => rw [if_neg (by decide)]; exact okT_nil 1
theorem okT_two {op : Int} (a b : Val) : (op = 3 ∨ op = 4 → okT 1 (twoM op a b)) ∧ (op ≠ 3 → op ≠ 4 → okT 3 (twoM op a b)) := by
  unfold twoM
  constructor
  · intro h
    rw [if_neg (by omega), if_neg (by omega)]
    split
    · exact okT_nil 1
    · rw [if_neg (by omega), if_neg (by omega)]
      split
      · exact okT_nil 1
      · exact okT_sum op a b
  · intro h3 h4
    split
    · exact okT_truth _
    · split
      · exact okT_truth _
      · split
        · exact okT_nil 3
        · split
          · exact okT_truth _
          · split
            · exact okT_truth _
            · rw [if_pos (.inr ⟨h3, h4⟩)]; exact okT_nil 3
theorem okT_rest {op : Int} : ∀ vs : List Val, (op = 3 ∨ op = 4 → okT 1 (restM op vs)) ∧ (op ≠ 3 → op ≠ 4 → okT 3 (restM op vs))
  | [] => ⟨fun _ => okT_nil 1, fun _ _ => okT_nil 3⟩
  | [a] => ⟨fun h => by rw [restM, if_neg (by omega), if_neg (by omega)]; exact okT_nil 1, fun _ _ => by
      rw [restM]; split
      · exact okT_truth _
      · split
        · exact okT_truth _
        · exact okT_nil 3⟩
  | [a, b] => okT_two a b
  | a :: b :: c :: t => ⟨fun _ => okT_nil 1, fun _ _ => okT_nil 3⟩
def RowT (ts : List Tab) (row : List Val) : Prop := ∀ (s name : Str) (p k : Int), findM ts s name = (p, k, 0) → 0 ≤ p ∧ ∃ v, row[p.toNat]? = some v ∧ okT k v
theorem bind_type {ts : List Tab} {row : List Val} (hr : RowT ts row) {e b : Ex} {ty : Int} (hg : e.op = 1 → goodM e.v = true) (h : bindM ts e = (b, ty, 0)) : okT ty (evalM row b) := by
  obtain ⟨op, v, s, name, n, l⟩ := e
  rw [bindM_eq] at h
  generalize errM (l.map fun x => (bindM ts x).2.2) = f at *
  generalize (l.map fun x => (bindM ts x).1) = es at *
  generalize (l.map fun x => (bindM ts x).2.1) = tys at *
  unfold bindOne at h
  by_cases hf : f = 0
  case neg => rw [if_pos hf] at h; simp only [Prod.mk.injEq] at h; exact absurd h.2.2 hf
  rw [if_neg (by simp [hf])] at h
  by_cases h1 : op = 1
  · rw [if_pos h1] at h
    simp only [Prod.mk.injEq] at h
    obtain ⟨rfl, rfl, _⟩ := h
    subst h1
    rw [evalM_eq]
    exact ⟨.inr rfl, fun _ => hg rfl⟩
  rw [if_neg h1] at h
  by_cases h2 : op = 2
  · rw [if_pos h2] at h
    simp only [Prod.mk.injEq] at h
    obtain ⟨rfl, h3, h4⟩ := h
    subst h2
    obtain ⟨p0, w, hw, hk⟩ := hr s name (findM ts s name).1 ty (by rw [← h3, ← h4])
    rw [evalM_eq, evalOne_ref, refM, if_pos p0, hw]
    exact hk
  rw [if_neg h2] at h
  have hev : ∀ n, evalM row (.mk op v s name n es) = restM op (es.map (evalM row)) := fun n => by rw [evalM_eq, evalOne_rest _ _ _ _ h1 h2]
  have hr := okT_rest (op := op) (es.map (evalM row))
  have hb : ∀ {x : BR}, x = badB → x = (b, ty, 0) → False := fun h1 h2 => by rw [h1] at h2; simp [badB] at h2
  by_cases h34 : op = 3 ∨ op = 4
  · rw [if_pos h34] at h
    split at h
    · simp only [Prod.mk.injEq] at h
      obtain ⟨rfl, rfl, _⟩ := h
      rw [hev]; exact hr.1 h34
    · exact (hb rfl h).elim
  rw [if_neg h34] at h
  have h3 : op ≠ 3 := fun e => h34 (.inl e)
  have h4 : op ≠ 4 := fun e => h34 (.inr e)
  split at h
  · split at h
    · simp only [Prod.mk.injEq] at h
      obtain ⟨rfl, rfl, _⟩ := h
      rw [hev]; exact hr.2 h3 h4
    · exact (hb rfl h).elim
  · split at h
    · split at h
      · simp only [Prod.mk.injEq] at h
        obtain ⟨rfl, rfl, _⟩ := h
        rw [hev]; exact hr.2 h3 h4
      · exact (hb rfl h).elim
    · split at h
      · simp only [Prod.mk.injEq] at h
        obtain ⟨rfl, rfl, _⟩ := h
        rw [hev]; exact hr.2 h3 h4
      · exact (hb rfl h).elim
theorem okT_of0 {ty : Int} {v : Val} (h : okT 0 v) : okT ty v := ⟨.inl (h.1.elim id id), fun _ => h.2 (by decide)⟩
theorem must_type {ts : List Tab} {row : List Val} (hr : RowT ts row) {e b : Ex} {k : Int} (hg : e.op = 1 → goodM e.v = true) (h : mustM ts e k = (b, 0)) : okT k (evalM row b) := by
  unfold mustM at h
  obtain ⟨⟨b', ty, f⟩, hb⟩ : ∃ r, bindM ts e = r := ⟨_, rfl⟩
  rw [hb] at h
  dsimp only at h
  by_cases hf : f = 0
  case neg => rw [if_pos hf] at h; simp only [Prod.mk.injEq] at h; exact absurd h.2 hf
  subst hf
  rw [if_neg (by simp)] at h
  by_cases hc : ((ty != k) && (ty != 0)) = true
  · rw [if_pos hc] at h; simp at h
  rw [if_neg hc] at h
  simp only [Prod.mk.injEq] at h
  obtain ⟨rfl, _⟩ := h
  have := bind_type hr hg hb
  by_cases hk : ty = k
  · rw [← hk]; exact this
  · have h0 : ty = 0 := by
      simp only [Bool.and_eq_true, bne_iff_ne, not_and, Decidable.not_not] at hc
      exact hc hk
    subst h0
    exact okT_of0 this
theorem fitsFrom_at {row : List Val} : ∀ {cs : List Col} {i : Nat}, fitsFrom row i cs = true → ∀ (j : Nat) (c : Col), cs[j]? = some c → fitV c (row.getD (i + j) nilV) = true
  | [], i, h, j, c, hc => by simp at hc
  | c0 :: cs, i, h, j, c, hc => by
    rw [fitsFrom, List.zipIdx_cons, List.all_cons, Bool.and_eq_true] at h
    cases j with
    | zero => simp at hc; subst hc; exact h.1
    | succ j =>
      have := fitsFrom_at (row := row) (cs := cs) (i := i + 1) h.2 j c (by simpa using hc)
      rw [show i + (j + 1) = i + 1 + j by omega]; exact this
theorem fitV_ok {c : Col} {v : Val} (h : fitV c v = true) : okT c.t v := by
  unfold fitV at h
  simp only [Bool.not_eq_true', Bool.or_eq_false_iff, Bool.not_eq_false', Bool.and_eq_false_iff, bne_eq_false_iff_eq] at h
  refine ⟨?_, fun _ => h.1⟩
  rcases h.2 with h | h
  · exact .inr h
  · exact .inl h.2
theorem find_one {t : Tab} {s name : Str} {p k : Int} (h : findM [t] s name = (p, k, 0)) : p = colM t name ∧ 0 ≤ colM t name ∧ k = colTy t (colM t name) := by
  unfold findM at h
  simp only [findGo] at h
  by_cases hh : hitM s name t = true
  · rw [if_pos hh, if_neg (by decide)] at h
    have h0 : 0 ≤ colM t name := by unfold hitM at hh; simp only [Bool.and_eq_true, decide_eq_true_eq] at hh; exact hh.1
    rw [if_neg (by omega)] at h
    simp only [Prod.mk.injEq] at h
    exact ⟨by omega, h0, h.2.1.symm⟩
  · rw [if_neg hh] at h
    simp at h
theorem col_at {t : Tab} {name : Str} (h : 0 ≤ colM t name) : ∃ c, t.cols[(colM t name).toNat]? = some c ∧ c.n = name := by
  obtain ⟨x, hx, hp, _⟩ := idx_lt (p := fun c : Col => c.n == name) (l := t.cols) (i := (colM t name).toNat) (show colM t name = _ by omega)
  exact ⟨x, hx, by simpa using hp⟩
theorem rowT_one {t : Tab} {row : List Val} (h : fitsM t row = true) : RowT [t] row := by
  simp only [fitsM, Bool.and_eq_true, beq_iff_eq] at h
  intro s name p k hf
  obtain ⟨rfl, h0, rfl⟩ := find_one hf
  refine ⟨h0, ?_⟩
  obtain ⟨c, hc, _⟩ := col_at h0
  have hi := (List.getElem?_eq_some_iff.1 hc).1
  have hv := fitsFrom_at h.2 _ _ hc
  rw [Nat.zero_add] at hv
  refine ⟨row.getD (colM t name).toNat nilV, getD_some nilV (by omega), ?_⟩
  have : colTy t (colM t name) = c.t := by rw [colTy, List.getD_eq_getElem?_getD, hc]; rfl
  rw [this]; exact fitV_ok hv
theorem goodEx_lit {d : Int} {e : Ex} (h : goodExM d e = true) : e.op = 1 → goodM e.v = true := by
  obtain ⟨op, v, s, name, n, l⟩ := e
  intro h1
  have h1 : op = 1 := h1
  subst h1
  rw [goodExM_eq] at h
  cases hl : lookM tblE 1 with
  | none => rw [hl] at h; simp at h
  | some k =>
    rw [hl] at h
    simp only [Bool.and_eq_true, Bool.not_eq_true'] at h
    have := h.2.1
    show goodM v = true
    cases hv : goodM v with
    | true => rfl
    | false => simp [bad2M, hv] at this
theorem eval_op0 (row : List Val) {e : Ex} (h : e.op = 0) : (evalM row e).k = 0 := by
  obtain ⟨op, v, s, name, n, l⟩ := e
  have h : op = 0 := h
  subst h
  rw [evalM_eq, evalOne_rest _ _ _ _ (by decide) (by decide)]
  generalize l.map (evalM row) = vs
  match vs with
  | [] => rfl
  | [a] => rfl
  | [a, b] => rw [restM, twoM]; simp only [if_neg (show ¬ ((0 : Int) = 7) by decide), if_neg (show ¬ ((0 : Int) = 8) by decide), if_neg (show ¬ ((0 : Int) = 5) by decide), if_neg (show ¬ ((0 : Int) = 6) by decide)]; split <;> (try split) <;> first | rfl | (exfalso; simp_all)
  | a :: b :: c :: t => rfl
structure Upd (c : Cat) (s : Stm) (b : Stm) : Prop where
  tab : (findT c s.table).2 = true
  sets : ∀ x ∈ b.sets, 0 ≤ colM (findT c s.table).1 x.co ∧ ∃ y ∈ s.sets, mustM [(findT c s.table).1] y.e (colTy (findT c s.table).1 (colM (findT c s.table).1 x.co)) = (x.e, 0)
  wh : whereM [(findT c s.table).1] s.wh = (b.wh, 0)
  good : goodCatM c = true
  form : ∀ e ∈ exprsM s, goodExM 1 e = true
  len : b.sets.length = s.sets.length
theorem form_good {c : Cat} {s : Stm} (h : formM c s = true) : goodCatM c = true ∧ ∀ e ∈ exprsM s, goodExM 1 e = true := by
  simp only [formM, Bool.not_eq_true', Bool.or_eq_false_iff, Bool.not_eq_false'] at h
  refine ⟨h.1.1.1, fun e he => ?_⟩
  have := List.any_eq_false.1 h.2 e he
  simpa using this
theorem errM_zero {l : List Int} (h : errM l = 0) : ∀ x ∈ l, x = 0 := by
  intro x hx
  unfold errM at h
  cases hf : l.find? (fun f => f != 0) with
  | none => have := List.find?_eq_none.1 hf x hx; simpa using this
  | some y =>
    rw [hf] at h
    have := List.find?_some hf
    simp at h this; omega
theorem upd_of {c : Cat} {s b : Stm} (hk : s.kind = 4 ∨ s.kind = 5 ∨ s.kind = 6) (h : bindStM c s = (b, 0)) : Upd c s b := by
  unfold bindStM at h
  cases hf : formM c s with
  | false => rw [hf, if_pos rfl] at h; simp at h
  | true =>
  rw [hf, if_neg (by decide)] at h
  obtain ⟨hg, hfo⟩ := form_good hf
  by_cases hp : (preM c s).2 = 0
  case neg => rw [if_pos hp] at h; simp only [Prod.mk.injEq] at h; exact absurd h.2 hp
  rw [if_neg (by simp [hp])] at h
  simp only [Prod.mk.injEq] at h
  obtain ⟨h, _⟩ := h
  have hpre : preM c s = if (findT c s.table).2 then changeM s (findT c s.table).1 else (s, 3) := by
    rw [preM, if_neg (by omega), if_neg (by omega), if_neg (by omega), if_neg (by omega)]
  rw [hpre] at h hp
  cases ht : (findT c s.table).2 with
  | false => rw [ht, if_neg (by decide)] at hp; simp at hp
  | true =>
  rw [ht, if_pos rfl] at h hp
  unfold changeM at h hp
  by_cases he : rowsE s (findT c s.table).1 = 0
  case neg => rw [if_pos he] at hp; exact absurd hp he
  rw [if_neg (by simp [he])] at h hp
  by_cases hs : setsE s (findT c s.table).1 = 0
  case neg => rw [if_pos hs] at hp; exact absurd hp hs
  rw [if_neg (by simp [hs])] at h hp
  dsimp only at h hp
  refine ⟨ht, fun x hx => ?_, by rw [← h]; exact Prod.ext rfl hp, hg, hfo, by rw [← h]; simp⟩
  rw [← h] at hx
  obtain ⟨p, hp1, rfl⟩ := List.mem_map.1 hx
  have h0 := errM_zero hs _ (List.mem_map_of_mem (f := fun p => (setM (findT c s.table).1 s.sets p).2) hp1)
  have hy : p.1 ∈ s.sets := by
    obtain ⟨q, i⟩ := p
    exact List.mem_of_getElem? (List.mem_zipIdx_iff_getElem?.1 hp1)
  unfold setM at h0 ⊢
  by_cases hc : colM (findT c s.table).1 p.1.co < 0
  · rw [if_pos hc] at h0; simp at h0
  rw [if_neg hc] at h0 ⊢
  split at h0
  · simp at h0
  rename_i hany
  rw [if_neg hany]
  exact ⟨Int.not_lt.1 hc, p.1, hy, Prod.ext rfl h0⟩
end Go.Proofs.YthkobnpogigkiaaDoor
/- Commands, bound: SchemaTypes answers true. Conditions: how much there is of what comes in. -/
namespace Go.Proofs.YthkobnpogigkiaaDoor
open Go.Abs
set_option maxRecDepth 100000
attribute [local irreducible] L Code.wp bodyPost Exit.then Exit.inBlock
set_option linter.unusedVariables false
set_option linter.unusedSimpArgs false
theorem nilE_ok : nilE.Ok := .mk (by simp) (by simp)
theorem bind_ok (ts : List Tab) : ∀ e : Ex, e.Ok → (bindM ts e).1.Ok
  | .mk op v s name n l, hok => by
    have hl : l.length * 104 ≤ 140737488355328 := by cases hok with | mk hl _ => exact hl
    have ih : ∀ x ∈ l, (bindM ts x).1.Ok := fun x hx => bind_ok ts x (by cases hok with | mk _ h => exact h x hx)
    have hmk : ∀ n, (Ex.mk op v s name n (l.map fun x => (bindM ts x).1)).Ok := fun n => .mk (by rw [List.length_map]; exact hl) (fun x hx => by obtain ⟨y, hy, rfl⟩ := List.mem_map.1 hx; exact ih y hy)
    rw [bindM_eq]
    generalize errM (l.map fun x => (bindM ts x).2.2) = f at *
    generalize (l.map fun x => (bindM ts x).1) = es at *
    generalize (l.map fun x => (bindM ts x).2.1) = tys at *
    unfold bindOne
    by_cases hf : f ≠ 0
    · rw [if_pos hf]; exact nilE_ok
    rw [if_neg hf]
    by_cases h1 : op = 1
    · rw [if_pos h1]; exact hmk n
    rw [if_neg h1]
    by_cases h2 : op = 2
    · rw [if_pos h2]; exact hmk _
    rw [if_neg h2]
    repeat' split
    all_goals first | exact hmk n | exact nilE_ok
 termination_by e => SizeOf.sizeOf e
 decreasing_by
  have := List.sizeOf_lt_of_mem hx
  simp; omega
theorem must_ok {ts : List Tab} {e : Ex} (h : e.Ok) (k : Int) : (mustM ts e k).1.Ok := by
  unfold mustM
  repeat' split
  all_goals first | exact nilE_ok | exact bind_ok ts e h
theorem where_ok {ts : List Tab} {e : Ex} (h : e.Ok) : (whereM ts e).1.Ok := by
  unfold whereM
  split
  · exact h
  · exact must_ok h 3
def schC : Cat := ⟨[⟨[116], [⟨[97], 1, true⟩]⟩], []⟩
def schS : Stm := ⟨7, [], [], [], [], [], [], [[116]], [], nilE, [], false, -1⟩
def schB : Stm := ⟨7, [], [], [], [], [], [], [[116]], [.mk 2 nilV [116] [97] 0 []], nilE, [], false, -1⟩
theorem sch_bind : bindStM schC schS = (schB, 0) := by kernel_rfl
theorem sch_good : goodCatM schC = true := by kernel_rfl
theorem nilE_okS : nilE.OkS := .mk (by simp) (by simp) (by simp) (by simp)
theorem schC_ok : schC.Ok := ⟨by simp [schC], by simp [schC], fun t ht => by
  simp only [schC, List.mem_singleton] at ht
  subst ht
  exact ⟨by simp, by simp, fun c hc => by simp only [List.mem_singleton] at hc; subst hc; simp⟩, fun x hx => by simp [schC] at hx⟩
theorem schS_ok : schS.Ok where
  tot := by simp [schS]
  rows := by simp [schS]
  sets := by simp [schS]
  cols := by simp [schS]
  frm := by simp [schS]
  all := fun e he => by simp [exprsM, schS, nilE, Ex.op] at he
  wh := nilE_okS
  name := by simp [schS]
  table := by simp [schS]
  col := by simp [schS]
  cn := fun c hc => by simp [schS] at hc
theorem schemas_any : CallG gs0 Tryd.prog 9 [] [] [] [] (aB true) := by
  have kb := bindSt_any schC schC_ok schS schS_ok
  rw [sch_bind] at kb
  have kg := goodCat_any schC schC_ok
  rw [sch_good] at kg
  refine CallG.intro _ Tryd.func9 rfl Tryd.ntmps9 rfl (fun w0 E0 hG => ?_)
  have g0 : (schB.out.map Ex.c)[(0 : Int).toNat]? = some [I 2, I 0, I 0, S [], S [116], S [97], I 0, .sl []] := by
    rw [show schB.out = [.mk 2 nilV [116] [97] 0 []] from rfl]
    exact congrArg some (Ex.c_cs _)
  (repeat' (first | (refine LW.is ?_; first | (apply s_callG; exact rfl; exact hG; (first | exact kb | exact kg); exact rfl; exact rfl) | (apply s_vr; exact rfl; apply v_indexA; exact rfl; exact rfl; decide; exact g0; exact rfl) | refine s_v ?_ | refine s_m ?_ | refine s_nil ?_ | refine s_gd ?_ | (refine s_gsplit rfl rfl rfl (fun hb => ?_) (fun hb => ?_) <;> refine fct hb (fun hp => ?_))) | (refine DR.is ?_; first | (apply d_callG; exact rfl; exact hG; (first | exact kb | exact kg); exact rfl; exact rfl) | (apply d_vr; exact rfl; apply v_indexA; exact rfl; exact rfl; decide; exact g0; exact rfl) | refine d_v ?_ | refine d_m ?_ | (apply d_nil; kernel_rfl) | refine d_gd ?_ | (refine d_gsplit rfl rfl rfl (fun hb => ?_) (fun hb => ?_) <;> refine fct hb (fun hp => ?_))) | refine c_go ?_ | refine s_region ?_ | refine d_region ?_ | (refine L.cond rfl (fun hb => ?_) (fun hb => ?_) <;> refine fct hb (fun hp => ?_))))
  all_goals (first | (apply L.ends1; exact rfl; exact rfl; exact rfl) | (apply L.ends2; exact rfl; exact rfl; exact rfl) | (apply L.ends3; exact rfl; exact rfl; exact rfl) | (apply L.ends1A; exact rfl; exact rfl; exact rfl) | (apply L.ends2A; exact rfl; exact rfl; exact rfl) | (apply L.ends3A; exact rfl; exact rfl; exact rfl))
  all_goals rfl
theorem goodTab_type {t : Tab} (h : goodTabM t = true) : ∀ c ∈ t.cols, c.t = 1 ∨ c.t = 2 := by
  intro c hc
  simp only [goodTabM, Bool.and_eq_true] at h
  obtain ⟨i, hi⟩ := List.getElem?_of_mem hc
  have := List.all_eq_true.1 h.1 (c, i) (List.mem_iff_getElem?.2 ⟨i, by simp [List.getElem?_zipIdx, hi]⟩)
  simp only [colOk, Bool.not_eq_true', Bool.or_eq_false_iff, Bool.and_eq_false_iff, bne_eq_false_iff_eq] at this
  exact this.1.2
theorem goodCat_tab' {c : Cat} (h : goodCatM c = true) {name : Str} (hf : (findT c name).2 = true) : goodTabM (findT c name).1 = true := by
  simp only [goodCatM, Bool.and_eq_true] at h
  unfold findT at hf ⊢
  cases he : c.ts.find? (fun t => t.n == name) with
  | none => rw [he] at hf; simp at hf
  | some t =>
    obtain ⟨i, hi⟩ := List.getElem?_of_mem (List.mem_of_find?_eq_some he)
    have := List.all_eq_true.1 h.1 (t, i) (List.mem_iff_getElem?.2 ⟨i, by simp [List.getElem?_zipIdx, hi]⟩)
    simp only [tabOk, Bool.not_eq_true', Bool.or_eq_false_iff, Bool.not_eq_false'] at this
    exact this.1
set_option maxHeartbeats 16000000 in
theorem schemaTypes_any (c : Cat) (hc : c.Ok) (s : Stm) (hok : s.Ok) (row : List Val) :
    CallG gs0 Tryd.prog 3 [.agg (c.c.map .iv), .agg (s.cs.map .iv), .iv (.sl (row.map Val.c))] [] [] [] (aB true) := by
  have kb := bindSt_any c hc s hok
  have kS := schemas_any
  have kf := findTable_any c s.table hc.t
  obtain ⟨⟨b, f⟩, hb⟩ : ∃ r, bindStM c s = r := ⟨_, rfl⟩
  rw [hb] at kb
  dsimp only at kb
  have hsl := hok.sets
  refine CallG.intro _ Tryd.func3 rfl Tryd.ntmps3 rfl (fun w0 E0 hG => ?_)
  by_cases hf : f = 0
  case neg =>
    have q : (f != 0) = true := by simpa using hf
    obtain ⟨kind, name, table, col, cols, rows, sets, frm, out, wh, ord, down, n⟩ := s
    (repeat' (first | (refine LW.is ?_; first | (apply s_callG; exact rfl; exact hG; (first | exact kb | exact kS); exact rfl; exact rfl) | refine s_v ?_ | refine s_m ?_ | refine s_nil ?_ | refine s_gd ?_ | (refine s_gsplit rfl rfl rfl (fun hb => ?_) (fun hb => ?_) <;> refine fct hb (fun hp => ?_))) | (refine DR.is ?_; first | (apply d_callG; exact rfl; exact hG; (first | exact kb | exact kS); exact rfl; exact rfl) | refine d_v ?_ | refine d_m ?_ | (apply d_nil; kernel_rfl) | refine d_gd ?_ | (refine d_gsplit rfl rfl rfl (fun hb => ?_) (fun hb => ?_) <;> refine fct hb (fun hp => ?_))) | refine c_go ?_ | refine s_region ?_ | refine d_region ?_ | (refine L.cond rfl (fun hb => ?_) (fun hb => ?_) <;> refine fct hb (fun hp => ?_))))
    all_goals (first | (apply L.ends1; exact rfl; exact rfl; exact rfl) | (apply L.ends2; exact rfl; exact rfl; exact rfl) | (apply L.ends3; exact rfl; exact rfl; exact rfl) | (apply L.ends1A; exact rfl; exact rfl; exact rfl) | (apply L.ends2A; exact rfl; exact rfl; exact rfl) | (apply L.ends3A; exact rfl; exact rfl; exact rfl))
    all_goals rfl
  subst hf
  have q : ((0 : Int) != 0) = false := rfl
  by_cases hk : s.kind = 6
  case neg =>
    have q6 : (s.kind != 6) = true := by simpa using hk
    obtain ⟨kind, name, table, col, cols, rows, sets, frm, out, wh, ord, down, n⟩ := s
    (repeat' (first | (refine LW.is ?_; first | (apply s_callG; exact rfl; exact hG; (first | exact kb | exact kS); exact rfl; exact rfl) | refine s_v ?_ | refine s_m ?_ | refine s_nil ?_ | refine s_gd ?_ | (refine s_gsplit rfl rfl rfl (fun hb => ?_) (fun hb => ?_) <;> refine fct hb (fun hp => ?_))) | (refine DR.is ?_; first | (apply d_callG; exact rfl; exact hG; (first | exact kb | exact kS); exact rfl; exact rfl) | refine d_v ?_ | refine d_m ?_ | (apply d_nil; kernel_rfl) | refine d_gd ?_ | (refine d_gsplit rfl rfl rfl (fun hb => ?_) (fun hb => ?_) <;> refine fct hb (fun hp => ?_))) | refine c_go ?_ | refine s_region ?_ | refine d_region ?_ | (refine L.cond rfl (fun hb => ?_) (fun hb => ?_) <;> refine fct hb (fun hp => ?_))))
    all_goals (first | (apply L.ends1; exact rfl; exact rfl; exact rfl) | (apply L.ends2; exact rfl; exact rfl; exact rfl) | (apply L.ends3; exact rfl; exact rfl; exact rfl) | (apply L.ends1A; exact rfl; exact rfl; exact rfl) | (apply L.ends2A; exact rfl; exact rfl; exact rfl) | (apply L.ends3A; exact rfl; exact rfl; exact rfl))
    all_goals rfl
  have U := upd_of (.inr (.inr hk)) hb
  have q6 : (s.kind != 6) = false := by simp [hk]
  have hgt := goodCat_tab' U.good U.tab
  have hcc := (goodCat_find U.good).2.2 s.table
  have hset : ∀ x ∈ b.sets, x.e.Ok := fun x hx => by
    obtain ⟨_, y, hy, hm⟩ := U.sets x hx
    have := must_ok (ts := [(findT c s.table).1]) (hok.all y.e (by unfold exprsM; simp only [List.mem_append, List.mem_map]; exact .inl (.inr ⟨y, hy, rfl⟩))).ok (colTy (findT c s.table).1 (colM (findT c s.table).1 x.co))
    rw [hm] at this; exact this
  have hwh : b.wh.Ok := by have := where_ok (ts := [(findT c s.table).1]) hok.wh.ok; rw [U.wh] at this; exact this
  have hlit : ∀ y ∈ s.sets, y.e.op = 1 → goodM y.e.v = true := fun y hy => goodEx_lit (U.form y.e (by unfold exprsM; simp only [List.mem_append, List.mem_map]; exact .inl (.inr ⟨y, hy, rfl⟩)))
  have hwt : fitsM (findT c s.table).1 row = true → (evalM row b.wh).k = 0 ∨ (evalM row b.wh).k = 3 := fun hfit => by
    have h := U.wh
    unfold whereM at h
    by_cases h0 : s.wh.op = 0
    · rw [if_pos h0] at h
      simp only [Prod.mk.injEq] at h
      rw [← h.1]; exact .inl (eval_op0 row h0)
    · rw [if_neg h0] at h
      exact (must_type (rowT_one hfit) (goodEx_lit (U.form s.wh (by unfold exprsM; rw [if_neg h0]; simp))) h).1
  have hst : fitsM (findT c s.table).1 row = true → ∀ x ∈ b.sets, 0 ≤ colM (findT c s.table).1 x.co ∧ okT (colTy (findT c s.table).1 (colM (findT c s.table).1 x.co)) (evalM row x.e) := fun hfit x hx => by
    obtain ⟨h0, y, hy, hm⟩ := U.sets x hx
    exact ⟨h0, must_type (rowT_one hfit) (hlit y hy) hm⟩
  have hbl := U.len
  rw [show (findT c s.table).2 = true from U.tab] at kf
  clear U hlit hok
  generalize (findT c s.table).1 = t at *
  have kfit := fits_any t row (by omega)
  obtain ⟨kind, name, table, col, cols, rows, sets, frm, out, wh, ord, down, n⟩ := s
  dsimp only at hk q6 hbl hsl kf
  cases hfit : fitsM t row with
  | false =>
    rw [hfit] at kfit
    (repeat' (first | (refine LW.is ?_; first | (apply s_callG; exact rfl; exact hG; (first | exact kb | exact kS); exact rfl; exact rfl) | (apply s_call0; exact rfl; (first | exact kf | exact kfit); exact rfl; exact rfl) | refine s_v ?_ | refine s_m ?_ | refine s_nil ?_ | refine s_gd ?_ | (refine s_gsplit rfl rfl rfl (fun hb => ?_) (fun hb => ?_) <;> refine fct hb (fun hp => ?_))) | (refine DR.is ?_; first | (apply d_callG; exact rfl; exact hG; (first | exact kb | exact kS); exact rfl; exact rfl) | (apply d_call0; exact rfl; (first | exact kf | exact kfit); exact rfl; exact rfl) | refine d_v ?_ | refine d_m ?_ | (apply d_nil; kernel_rfl) | refine d_gd ?_ | (refine d_gsplit rfl rfl rfl (fun hb => ?_) (fun hb => ?_) <;> refine fct hb (fun hp => ?_))) | refine c_go ?_ | refine s_region ?_ | refine d_region ?_ | (refine L.cond rfl (fun hb => ?_) (fun hb => ?_) <;> refine fct hb (fun hp => ?_))))
    all_goals (first | (apply L.ends1; exact rfl; exact rfl; exact rfl) | (apply L.ends2; exact rfl; exact rfl; exact rfl) | (apply L.ends3; exact rfl; exact rfl; exact rfl) | (apply L.ends1A; exact rfl; exact rfl; exact rfl) | (apply L.ends2A; exact rfl; exact rfl; exact rfl) | (apply L.ends3A; exact rfl; exact rfl; exact rfl))
    all_goals rfl
  | true =>
  rw [hfit] at kfit
  have hwt := hwt hfit
  have hst := hst hfit
  (repeat' (first | (refine LW.is ?_; first | (apply s_callG; exact rfl; exact hG; (first | exact kb | exact kS); exact rfl; exact rfl) | (apply s_call0; exact rfl; (first | exact kf | exact kfit); exact rfl; exact rfl) | refine s_v ?_ | refine s_m ?_ | refine s_nil ?_ | refine s_gd ?_ | (refine s_gsplit rfl rfl rfl (fun hb => ?_) (fun hb => ?_) <;> refine fct hb (fun hp => ?_))) | (refine DR.is ?_; first | (apply d_callG; exact rfl; exact hG; (first | exact kb | exact kS); exact rfl; exact rfl) | (apply d_call0; exact rfl; (first | exact kf | exact kfit); exact rfl; exact rfl) | refine d_v ?_ | refine d_m ?_ | (apply d_nil; kernel_rfl) | refine d_gd ?_ | (refine d_gsplit rfl rfl rfl (fun hb => ?_) (fun hb => ?_) <;> refine fct hb (fun hp => ?_))) | refine c_go ?_ | refine s_region ?_ | refine d_region ?_ | (refine L.cond rfl (fun hb => ?_) (fun hb => ?_) <;> refine fct hb (fun hp => ?_))))
  refine L.loopP (ι := Nat) (fun j => ⟨[(48, aI (j : Int)), (47, aI ((b.sets.map Ast.c).length : Int)), (46, .iv (.sl (b.sets.map Ast.c))), (2, .iv (.sl (row.map Val.c))), (9, .ptr 9 0), (7, .ptr 7 0)],
    [(9, ⟨43, .l (t.c.map .iv)⟩), (7, ⟨36, .l (b.cs.map .iv)⟩)], []⟩) (fun j => b.sets.length - j) (fun j => True) (i0 := 0) ?_ trivial ?_
  · (refine Wk.mk' (by intro id h; cases h) ?_ ?_ ?_ <;> repeat' (first | exact WkF.nil | exact WkB.nil | exact WkT.nil | (refine WkF.cons rfl (Sub.refl _) ?_) | (refine WkB.cons rfl rfl (Subs.refl _) ?_) | (refine WkT.cons rfl ?_)))
  intro j _ K hK
  cases hy : b.sets[j]? with
  | some x =>
    have jlt := ltT (l := b.sets.map Ast.c) (getF (f := Ast.c) hy)
    have jlt' := ltN hy
    have g1 : (b.sets.map Ast.c)[((j : Nat) : Int).toNat]? = some [S x.co, I x.e.op, I x.e.v.k, I x.e.v.n, S x.e.v.s, S x.e.s, S x.e.name, I x.e.n, .sl (x.e.l.map Ex.c)] := by rw [Int.toNat_natCast, List.getElem?_map, hy]; rfl
    obtain ⟨h0, hok2⟩ := hst x (List.mem_of_getElem? hy)
    have kc := findCol_any t x.co (by omega)
    have ke := eval_any row x.e (hset x (List.mem_of_getElem? hy))
    rw [Ex.c_cs] at ke
    have q0 : decide (colM t x.co < 0) = false := decide_eq_false (by omega)
    obtain ⟨cc, hcc1, _⟩ := col_at h0
    have hct : colTy t (colM t x.co) = cc.t := by rw [colTy, List.getD_eq_getElem?_getD, hcc1]; rfl
    have hci := (List.getElem?_eq_some_iff.1 hcc1).1
    have g3 : (t.cols.map Col.c)[(colM t x.co).toNat]? = some [S cc.n, I cc.t, .im (.bool cc.m)] := by rw [List.getElem?_map, hcc1]; rfl
    have hcty := goodTab_type hgt cc (List.mem_of_getElem? hcc1)
    rw [hct] at hok2
    generalize colM t x.co = kk at *
    generalize evalM row x.e = v at *
    have hgv : goodM v = true := hok2.2 (by omega)
    have kg := good_any v
    rw [hgv] at kg
    rcases hok2.1 with hv | hv
    · have qv : (v.k != 0) = false := by simp [hv]
      (repeat' (first | (refine LW.is ?_; first | (apply s_vr; exact rfl; apply v_indexA; exact rfl; exact rfl; omega; (first | exact g1 | exact g3); exact rfl) | (apply s_call0; exact rfl; (first | exact kc | exact ke | exact kg); exact rfl; exact rfl) | refine s_v ?_ | refine s_m ?_ | refine s_nil ?_ | refine s_gd ?_ | (refine s_gsplit rfl rfl rfl (fun hb => ?_) (fun hb => ?_) <;> refine fct hb (fun hp => ?_))) | (refine DR.is ?_; first | (apply d_vr; exact rfl; apply v_indexA; exact rfl; exact rfl; omega; (first | exact g1 | exact g3); exact rfl) | (apply d_call0; exact rfl; (first | exact kc | exact ke | exact kg); exact rfl; exact rfl) | refine d_v ?_ | refine d_m ?_ | (apply d_nil; kernel_rfl) | refine d_gd ?_ | (refine d_gsplit rfl rfl rfl (fun hb => ?_) (fun hb => ?_) <;> refine fct hb (fun hp => ?_))) | refine c_go ?_ | refine s_region ?_ | refine d_region ?_ | (refine L.cond rfl (fun hb => ?_) (fun hb => ?_) <;> refine fct hb (fun hp => ?_))))
      refine hK _ (j + 1) trivial (by omega) ?_
      (refine Wk.mk' (by intro id h; cases h) ?_ ?_ ?_ <;> repeat' (first | exact WkF.nil | exact WkB.nil | exact WkT.nil | (refine WkF.cons rfl (Sub.refl _) ?_) | (refine WkB.cons rfl rfl (Subs.refl _) ?_) | (refine WkT.cons rfl ?_)))
    · have qv : (v.k != 0) = true := by simp; omega
      have qt : (v.k != cc.t) = false := by simp [hv]
      (repeat' (first | (refine LW.is ?_; first | (apply s_vr; exact rfl; apply v_indexA; exact rfl; exact rfl; omega; (first | exact g1 | exact g3); exact rfl) | (apply s_call0; exact rfl; (first | exact kc | exact ke | exact kg); exact rfl; exact rfl) | refine s_v ?_ | refine s_m ?_ | refine s_nil ?_ | refine s_gd ?_ | (refine s_gsplit rfl rfl rfl (fun hb => ?_) (fun hb => ?_) <;> refine fct hb (fun hp => ?_))) | (refine DR.is ?_; first | (apply d_vr; exact rfl; apply v_indexA; exact rfl; exact rfl; omega; (first | exact g1 | exact g3); exact rfl) | (apply d_call0; exact rfl; (first | exact kc | exact ke | exact kg); exact rfl; exact rfl) | refine d_v ?_ | refine d_m ?_ | (apply d_nil; kernel_rfl) | refine d_gd ?_ | (refine d_gsplit rfl rfl rfl (fun hb => ?_) (fun hb => ?_) <;> refine fct hb (fun hp => ?_))) | refine c_go ?_ | refine s_region ?_ | refine d_region ?_ | (refine L.cond rfl (fun hb => ?_) (fun hb => ?_) <;> refine fct hb (fun hp => ?_))))
      refine hK _ (j + 1) trivial (by omega) ?_
      (refine Wk.mk' (by intro id h; cases h) ?_ ?_ ?_ <;> repeat' (first | exact WkF.nil | exact WkB.nil | exact WkT.nil | (refine WkF.cons rfl (Sub.refl _) ?_) | (refine WkB.cons rfl rfl (Subs.refl _) ?_) | (refine WkT.cons rfl ?_)))
  | none =>
    have jlt := ltF (l := b.sets.map Ast.c) (getFN hy)
    have ke := eval_any row b.wh hwh
    rw [Ex.c_cs] at ke
    generalize evalM row b.wh = v at *
    clear hK
    rcases hwt with hv | hv
    · have qv : (v.k == 0) = true := by simp [hv]
      (repeat' (first | (refine LW.is ?_; first | (apply s_call0; exact rfl; exact ke; exact rfl; exact rfl) | refine s_v ?_ | refine s_m ?_ | refine s_nil ?_ | refine s_gd ?_ | (refine s_gsplit rfl rfl rfl (fun hb => ?_) (fun hb => ?_) <;> refine fct hb (fun hp => ?_))) | (refine DR.is ?_; first | (apply d_call0; exact rfl; exact ke; exact rfl; exact rfl) | refine d_v ?_ | refine d_m ?_ | (apply d_nil; kernel_rfl) | refine d_gd ?_ | (refine d_gsplit rfl rfl rfl (fun hb => ?_) (fun hb => ?_) <;> refine fct hb (fun hp => ?_))) | refine c_go ?_ | refine s_region ?_ | refine d_region ?_ | (refine L.cond rfl (fun hb => ?_) (fun hb => ?_) <;> refine fct hb (fun hp => ?_))))
      all_goals (first | (apply L.ends1; exact rfl; exact rfl; exact rfl) | (apply L.ends2; exact rfl; exact rfl; exact rfl) | (apply L.ends3; exact rfl; exact rfl; exact rfl) | (apply L.ends1A; exact rfl; exact rfl; exact rfl) | (apply L.ends2A; exact rfl; exact rfl; exact rfl) | (apply L.ends3A; exact rfl; exact rfl; exact rfl))
      all_goals rfl
    · have qv : (v.k == 0) = false := by simp [hv]
      have qt : (v.k == 3) = true := by simp [hv]
      (repeat' (first | (refine LW.is ?_; first | (apply s_call0; exact rfl; exact ke; exact rfl; exact rfl) | refine s_v ?_ | refine s_m ?_ | refine s_nil ?_ | refine s_gd ?_ | (refine s_gsplit rfl rfl rfl (fun hb => ?_) (fun hb => ?_) <;> refine fct hb (fun hp => ?_))) | (refine DR.is ?_; first | (apply d_call0; exact rfl; exact ke; exact rfl; exact rfl) | refine d_v ?_ | refine d_m ?_ | (apply d_nil; kernel_rfl) | refine d_gd ?_ | (refine d_gsplit rfl rfl rfl (fun hb => ?_) (fun hb => ?_) <;> refine fct hb (fun hp => ?_))) | refine c_go ?_ | refine s_region ?_ | refine d_region ?_ | (refine L.cond rfl (fun hb => ?_) (fun hb => ?_) <;> refine fct hb (fun hp => ?_))))
      all_goals (first | (apply L.ends1; exact rfl; exact rfl; exact rfl) | (apply L.ends2; exact rfl; exact rfl; exact rfl) | (apply L.ends3; exact rfl; exact rfl; exact rfl) | (apply L.ends1A; exact rfl; exact rfl; exact rfl) | (apply L.ends2A; exact rfl; exact rfl; exact rfl) | (apply L.ends3A; exact rfl; exact rfl; exact rfl))
      all_goals (first | rfl | exact congrArg (fun b => aB b) qt)
end Go.Proofs.YthkobnpogigkiaaDoor
/- What comes in, as the model's values: values, and lists of them. Conditions: none. -/
namespace Go.Proofs.YthkobnpogigkiaaDoor
open Go.Abs
set_option linter.unusedVariables false
set_option maxRecDepth 100000
def isI64 (n : Int) : Prop := -9223372036854775808 ≤ n ∧ n ≤ 9223372036854775807
structure wfV (v : Val) : Prop where
  k : isI64 v.k
  n : isI64 v.n
  s : v.s.length ≤ reachBytes
theorem fit_val {xs : List IV} (h : Fits book [.int .i64, .int .i64, .str] xs) : ∃ v : Val, xs = v.c ∧ wfV v := by
  obtain ⟨x, xs, rfl, h1, h⟩ := h.cons_inv
  obtain ⟨y, xs, rfl, h2, h⟩ := h.cons_inv
  obtain ⟨z, xs, rfl, h3, h⟩ := h.cons_inv
  obtain rfl := h.nil_inv
  obtain ⟨k, rfl, a1, a2⟩ := h1.int_inv
  obtain ⟨n, rfl, b1, b2⟩ := h2.int_inv
  obtain ⟨s, rfl, c⟩ := h3.str_inv
  exact ⟨⟨k, n, s⟩, rfl, ⟨a1, a2⟩, ⟨b1, b2⟩, c⟩
theorem fit_vals {x : IV} (h : Fit book (.sl 32) x) : ∃ vs : List Val, x = .sl (vs.map Val.c) ∧ vs.length * 32 ≤ reachBytes ∧ vs.length ≤ x.sz ∧ ∀ v ∈ vs, wfV v := by
  obtain ⟨es, rfl, hl, he⟩ := h.sl_inv (n := 32) (cts := [.int .i64, .int .i64, .str]) rfl
  obtain ⟨vs, rfl, hv⟩ := map_of (f := Val.c) (Q := fun _ v => wfV v) (fun e h => fit_val (he e h))
  refine ⟨vs, rfl, by simpa using hl, ?_, hv⟩
  have := szss_len (es := vs.map Val.c) (fun e he => by
    obtain ⟨v, _, rfl⟩ := List.mem_map.1 he
    simp [Val.c])
  simp only [IV.sz, List.length_map] at this ⊢; omega
end Go.Proofs.YthkobnpogigkiaaDoor
/- Ways to rows: what plan.Put, plan.Drop and plan.Rows compute. Conditions: how much there is of what comes in. -/
namespace Go.Proofs.YthkobnpogigkiaaDoor
open Go.Abs
set_option maxRecDepth 100000
attribute [local irreducible] L Code.wp bodyPost Exit.then Exit.inBlock
set_option linter.unusedVariables false
set_option linter.unusedSimpArgs false
end Go.Proofs.YthkobnpogigkiaaDoor
/- Ways to rows: what plan.Rows computes. Conditions: how much there is of what comes in. -/
namespace Go.Proofs.YthkobnpogigkiaaDoor
open Go.Abs
set_option maxRecDepth 100000
attribute [local irreducible] L Code.wp bodyPost Exit.then Exit.inBlock
set_option linter.unusedVariables false
set_option linter.unusedSimpArgs false
end Go.Proofs.YthkobnpogigkiaaDoor
/- What comes in, as the model's values: catalogs, rows. Conditions: none. -/
namespace Go.Proofs.YthkobnpogigkiaaDoor
open Go.Abs
set_option linter.unusedVariables false
set_option maxRecDepth 100000
theorem fit_col {xs : List IV} (h : Fits book [.str, .int .i64, .bool] xs) : ∃ v : Col, xs = v.c ∧ v.n.length ≤ 140737488355328 := by
  obtain ⟨x, xs, rfl, h1, h⟩ := h.cons_inv
  obtain ⟨y, xs, rfl, h2, h⟩ := h.cons_inv
  obtain ⟨z, xs, rfl, h3, h⟩ := h.cons_inv
  obtain rfl := h.nil_inv
  obtain ⟨s, rfl, c⟩ := h1.str_inv
  obtain ⟨k, rfl, _⟩ := h2.int_inv
  obtain ⟨b, rfl⟩ := h3.bool_inv
  have hr : reachBytes = 140737488351232 := rfl
  exact ⟨⟨s, k, b⟩, rfl, by show s.length ≤ _; omega⟩
theorem fit_tab {xs : List IV} (h : Fits book [.str, .sl 53] xs) : ∃ v : Tab, xs = v.c ∧ v.Ok := by
  obtain ⟨x, xs, rfl, h1, h⟩ := h.cons_inv
  obtain ⟨y, xs, rfl, h2, h⟩ := h.cons_inv
  obtain rfl := h.nil_inv
  obtain ⟨s, rfl, c⟩ := h1.str_inv
  obtain ⟨es, rfl, hl, he⟩ := h2.sl_inv (n := 32) (cts := [.str, .int .i64, .bool]) rfl
  obtain ⟨vs, rfl, hv⟩ := map_of (f := Col.c) (Q := fun _ v => v.n.length ≤ 140737488355328) (fun e h => fit_col (he e h))
  have hr : reachBytes = 140737488351232 := rfl
  simp only [List.length_map] at hl
  exact ⟨⟨s, vs⟩, rfl, by show s.length ≤ _; omega, by show vs.length ≤ _; omega, hv⟩
theorem fit_idx {xs : List IV} (h : Fits book [.str, .str, .str] xs) : ∃ v : Idx, xs = v.c ∧ v.n.length ≤ 140737488355328 := by
  obtain ⟨x, xs, rfl, h1, h⟩ := h.cons_inv
  obtain ⟨y, xs, rfl, h2, h⟩ := h.cons_inv
  obtain ⟨z, xs, rfl, h3, h⟩ := h.cons_inv
  obtain rfl := h.nil_inv
  obtain ⟨s, rfl, c⟩ := h1.str_inv
  obtain ⟨u, rfl, _⟩ := h2.str_inv
  obtain ⟨v, rfl, _⟩ := h3.str_inv
  have hr : reachBytes = 140737488351232 := rfl
  exact ⟨⟨s, u, v⟩, rfl, by show s.length ≤ _; omega⟩
theorem fit_cat {xs : List IV} (h : Fits book [.sl 43, .sl 81] xs) : ∃ v : Cat, xs = v.c ∧ v.Ok := by
  obtain ⟨x, xs, rfl, h1, h⟩ := h.cons_inv
  obtain ⟨y, xs, rfl, h2, h⟩ := h.cons_inv
  obtain rfl := h.nil_inv
  obtain ⟨es, rfl, hl, he⟩ := h1.sl_inv (n := 40) (cts := [.str, .sl 53]) rfl
  obtain ⟨ts, rfl, hv⟩ := map_of (f := Tab.c) (Q := fun _ v => v.Ok) (fun e h => fit_tab (he e h))
  obtain ⟨fs, rfl, hl2, he2⟩ := h2.sl_inv (n := 48) (cts := [.str, .str, .str]) rfl
  obtain ⟨is, rfl, hv2⟩ := map_of (f := Idx.c) (Q := fun _ v => v.n.length ≤ 140737488355328) (fun e h => fit_idx (he2 e h))
  have hr : reachBytes = 140737488351232 := rfl
  simp only [List.length_map] at hl hl2
  exact ⟨⟨ts, is⟩, rfl, by show ts.length ≤ _; omega, by show is.length ≤ _; omega, hv, hv2⟩
end Go.Proofs.YthkobnpogigkiaaDoor
/- What comes in, as the model's values: commands, of no great size. Conditions: none. -/
namespace Go.Proofs.YthkobnpogigkiaaDoor
open Go.Abs
set_option linter.unusedVariables false
set_option maxRecDepth 100000
theorem szs_mem {es : List (List IV)} {e : List IV} (h : e ∈ es) : szs e ≤ szss es := by
  induction es with
  | nil => cases h
  | cons x es ih =>
    simp only [szss]
    rcases List.mem_cons.1 h with rfl | h
    · omega
    · have := ih h; omega
theorem fit_exS : ∀ (n : Nat) {xs : List IV}, szs xs ≤ n → Fits book [.int .i64, .int .i64, .int .i64, .str, .str, .str, .int .i64, .sl 34] xs → ∃ e : Ex, xs = e.c ∧ e.OkS := by
  intro n
  induction n with
  | zero =>
    intro xs hn h
    obtain ⟨x1, xs, rfl, h1, h⟩ := h.cons_inv
    have := sz_pos x1
    simp only [szs] at hn; omega
  | succ n ih =>
    intro xs hn h
    obtain ⟨x1, xs, rfl, h1, h⟩ := h.cons_inv
    obtain ⟨x2, xs, rfl, h2, h⟩ := h.cons_inv
    obtain ⟨x3, xs, rfl, h3, h⟩ := h.cons_inv
    obtain ⟨x4, xs, rfl, h4, h⟩ := h.cons_inv
    obtain ⟨x5, xs, rfl, h5, h⟩ := h.cons_inv
    obtain ⟨x6, xs, rfl, h6, h⟩ := h.cons_inv
    obtain ⟨x7, xs, rfl, h7, h⟩ := h.cons_inv
    obtain ⟨x8, xs, rfl, h8, h⟩ := h.cons_inv
    obtain rfl := h.nil_inv
    obtain ⟨es, rfl, hl, he⟩ := h8.sl_inv (n := 104) (cts := [.int .i64, .int .i64, .int .i64, .str, .str, .str, .int .i64, .sl 34]) rfl
    have hsz : szss es ≤ n := by
      have := sz_pos x1
      simp only [szs, IV.sz] at hn; omega
    obtain ⟨l, rfl, hok⟩ := map_of (f := Ex.c) (Q := fun _ e => e.OkS) (fun e h => ih (Nat.le_trans (szs_mem h) hsz) (he e h))
    obtain ⟨op, rfl, _⟩ := h1.int_inv
    obtain ⟨k, rfl, _⟩ := h2.int_inv
    obtain ⟨m, rfl, _⟩ := h3.int_inv
    obtain ⟨s1, rfl, _⟩ := h4.str_inv
    obtain ⟨s2, rfl, l2⟩ := h5.str_inv
    obtain ⟨s3, rfl, l3⟩ := h6.str_inv
    obtain ⟨q, rfl, _⟩ := h7.int_inv
    have hr : reachBytes = 140737488351232 := rfl
    refine ⟨.mk op ⟨k, m, s1⟩ s2 s3 q l, by rw [Ex.c_eq], .mk (by simp only [List.length_map] at hl; omega) (by omega) (by omega) hok⟩
theorem fit_exl {x : IV} (h : Fit book (.sl 34) x) : ∃ l : List Ex, x = .sl (l.map Ex.c) ∧ l.length ≤ szss (l.map Ex.c) ∧ ∀ e ∈ l, e.OkS := by
  obtain ⟨es, rfl, hl, he⟩ := h.sl_inv (n := 104) (cts := [.int .i64, .int .i64, .int .i64, .str, .str, .str, .int .i64, .sl 34]) rfl
  obtain ⟨l, rfl, hok⟩ := map_of (f := Ex.c) (Q := fun _ e => e.OkS) (fun e h => fit_exS _ (Nat.le_refl _) (he e h))
  have := szss_len (es := l.map Ex.c) (fun e he => by obtain ⟨y, _, rfl⟩ := List.mem_map.1 he; rw [Ex.c_cs]; exact Nat.succ_pos _)
  rw [List.length_map] at this
  exact ⟨l, rfl, this, hok⟩
theorem szss_rows : ∀ {rows : List (List Ex)}, (∀ r ∈ rows, r.length ≤ szss (r.map Ex.c)) → rows.flatten.length + rows.length ≤ szss (rows.map exRow)
  | [], _ => by simp [szss]
  | r :: rows, h => by
    have h1 := h r (List.mem_cons_self ..)
    have h2 := szss_rows (rows := rows) (fun r hr => h r (List.mem_cons_of_mem _ hr))
    have e : szs (exRow r) = szss (r.map Ex.c) + 1 := by simp only [exRow, szs, IV.sz, Nat.add_zero]
    simp only [List.flatten_cons, List.length_append, List.length_cons, List.map_cons, szss]
    omega
theorem fit_rowsE {x : IV} (h : Fit book (.sl 30) x) : ∃ rows : List (List Ex), x = .sl (rows.map exRow) ∧ rows.flatten.length + rows.length ≤ szss (rows.map exRow) ∧ ∀ r ∈ rows, ∀ e ∈ r, e.OkS := by
  obtain ⟨es, rfl, hl, he⟩ := h.sl_inv (n := 24) (cts := [.sl 34]) rfl
  obtain ⟨rs, rfl, hv⟩ := map_of (f := exRow) (Q := fun _ r => r.length ≤ szss (r.map Ex.c) ∧ ∀ e ∈ r, e.OkS) (fun e h => by
    obtain ⟨y, ys, rfl, h1, h2⟩ := (he e h).cons_inv
    obtain rfl := h2.nil_inv
    obtain ⟨l, rfl, h3, h4⟩ := fit_exl h1
    exact ⟨l, rfl, h3, h4⟩)
  exact ⟨rs, rfl, szss_rows (fun r hr => (hv r hr).1), fun r hr => (hv r hr).2⟩
theorem fit_ast {xs : List IV} (h : Fits book [.str, .int .i64, .int .i64, .int .i64, .str, .str, .str, .int .i64, .sl 34] xs) : ∃ x : Ast, xs = x.c ∧ x.e.OkS := by
  obtain ⟨y, ys, rfl, h1, h2⟩ := h.cons_inv
  obtain ⟨s, rfl, _⟩ := h1.str_inv
  obtain ⟨e, rfl, hok⟩ := fit_exS _ (Nat.le_refl _) h2
  exact ⟨⟨s, e⟩, by rw [Ast.c, Ex.c_cs], hok⟩
theorem szs_el {x : IV} : ∀ {xs : List IV}, x ∈ xs → x.sz ≤ szs xs
  | [], h => by cases h
  | y :: xs, h => by
    rw [szs]
    rcases List.mem_cons.1 h with rfl | h
    · exact Nat.le_add_right _ _
    · exact Nat.le_trans (szs_el h) (Nat.le_add_left _ _)
theorem szs_at {xs : List IV} {es : List (List IV)} (hz : szs xs ≤ 1048576) (i : Nat) (h : xs[i]? = some (.sl es)) : szss es ≤ 1048576 := by
  have := szs_el (List.mem_of_getElem? h)
  rw [IV.sz] at this
  exact Nat.le_trans (Nat.le_of_succ_le this) hz
theorem fit_stm {xs : List IV} (h : Fits book [.int .i64, .str, .str, .str, .sl 53, .sl 30, .sl 48, .sl 9, .sl 34, .int .i64, .int .i64, .int .i64, .str, .str, .str, .int .i64, .sl 34, .sl 34, .bool, .int .i64] xs) (hz : szs xs ≤ 1048576) :
    ∃ s : Stm, xs = s.cs ∧ s.Ok := by
  obtain ⟨x1, xs, rfl, h1, h⟩ := h.cons_inv
  obtain ⟨x2, xs, rfl, h2, h⟩ := h.cons_inv
  obtain ⟨x3, xs, rfl, h3, h⟩ := h.cons_inv
  obtain ⟨x4, xs, rfl, h4, h⟩ := h.cons_inv
  obtain ⟨x5, xs, rfl, h5, h⟩ := h.cons_inv
  obtain ⟨x6, xs, rfl, h6, h⟩ := h.cons_inv
  obtain ⟨x7, xs, rfl, h7, h⟩ := h.cons_inv
  obtain ⟨x8, xs, rfl, h8, h⟩ := h.cons_inv
  obtain ⟨x9, xs, rfl, h9, h⟩ := h.cons_inv
  obtain ⟨y1, xs, rfl, k1, h⟩ := h.cons_inv
  obtain ⟨y2, xs, rfl, k2, h⟩ := h.cons_inv
  obtain ⟨y3, xs, rfl, k3, h⟩ := h.cons_inv
  obtain ⟨y4, xs, rfl, k4, h⟩ := h.cons_inv
  obtain ⟨y5, xs, rfl, k5, h⟩ := h.cons_inv
  obtain ⟨y6, xs, rfl, k6, h⟩ := h.cons_inv
  obtain ⟨y7, xs, rfl, k7, h⟩ := h.cons_inv
  obtain ⟨y8, xs, rfl, k8, h⟩ := h.cons_inv
  obtain ⟨z1, xs, rfl, j1, h⟩ := h.cons_inv
  obtain ⟨z2, xs, rfl, j2, h⟩ := h.cons_inv
  obtain ⟨z3, xs, rfl, j3, h⟩ := h.cons_inv
  obtain rfl := h.nil_inv
  have hr : reachBytes = 140737488351232 := rfl
  obtain ⟨kind, rfl, _⟩ := h1.int_inv
  obtain ⟨name, rfl, l2⟩ := h2.str_inv
  obtain ⟨table, rfl, l3⟩ := h3.str_inv
  obtain ⟨col, rfl, l4⟩ := h4.str_inv
  obtain ⟨es, rfl, l5, e5⟩ := h5.sl_inv (n := 32) (cts := [.str, .int .i64, .bool]) rfl
  obtain ⟨cols, rfl, c5⟩ := map_of (f := Col.c) (Q := fun _ v => v.n.length ≤ 140737488355328) (fun e h => fit_col (e5 e h))
  rw [List.length_map] at l5
  obtain ⟨rows, rfl, l6, c6⟩ := fit_rowsE h6
  obtain ⟨es, rfl, l7, e7⟩ := h7.sl_inv (n := 120) (cts := [.str, .int .i64, .int .i64, .int .i64, .str, .str, .str, .int .i64, .sl 34]) rfl
  obtain ⟨sets, rfl, c7⟩ := map_of (f := Ast.c) (Q := fun _ v => v.e.OkS) (fun e h => fit_ast (e7 e h))
  have m7 := szss_len (es := sets.map Ast.c) (fun e he => by obtain ⟨y, _, rfl⟩ := List.mem_map.1 he; exact Nat.succ_pos _)
  rw [List.length_map] at l7 m7
  obtain ⟨es, rfl, l8, e8⟩ := h8.sl_inv (n := 16) (cts := [.str]) rfl
  obtain ⟨frm, rfl, c8⟩ := map_of (f := Str.c) (Q := fun _ v => v.length ≤ 140737488355328) (fun e h => by
    obtain ⟨y, ys, rfl, h1, h2⟩ := (e8 e h).cons_inv
    obtain rfl := h2.nil_inv
    obtain ⟨s, rfl, l⟩ := h1.str_inv
    exact ⟨s, rfl, by omega⟩)
  rw [List.length_map] at l8
  obtain ⟨out, rfl, m9, c9⟩ := fit_exl h9
  obtain ⟨op, rfl, _⟩ := k1.int_inv
  obtain ⟨vk, rfl, _⟩ := k2.int_inv
  obtain ⟨vn, rfl, _⟩ := k3.int_inv
  obtain ⟨vs, rfl, _⟩ := k4.str_inv
  obtain ⟨ws, rfl, lw⟩ := k5.str_inv
  obtain ⟨wn, rfl, lwn⟩ := k6.str_inv
  obtain ⟨wi, rfl, _⟩ := k7.int_inv
  have k8' := k8
  obtain ⟨es, rfl, l8w, _⟩ := k8'.sl_inv (n := 104) (cts := [.int .i64, .int .i64, .int .i64, .str, .str, .str, .int .i64, .sl 34]) rfl
  obtain ⟨wl, hwl, _, cw⟩ := fit_exl k8
  obtain rfl : es = wl.map Ex.c := by injection hwl
  rw [List.length_map] at l8w
  obtain ⟨ord, rfl, mo, co⟩ := fit_exl j1
  obtain ⟨down, rfl⟩ := j2.bool_inv
  obtain ⟨n, rfl, _⟩ := j3.int_inv
  have t1 : szss (out.map Ex.c) ≤ 1048576 := szs_at hz 8 rfl
  have t2 : szss (ord.map Ex.c) ≤ 1048576 := szs_at hz 17 rfl
  have t4 : szss (rows.map exRow) ≤ 1048576 := szs_at hz 5 rfl
  have t5 : szss (sets.map Ast.c) ≤ 1048576 := szs_at hz 6 rfl
  clear hz
  generalize szss (out.map Ex.c) = a1 at *
  generalize szss (ord.map Ex.c) = a2 at *
  generalize szss (rows.map exRow) = a4 at *
  generalize szss (sets.map Ast.c) = a5 at *
  have hwh : (Ex.mk op ⟨vk, vn, vs⟩ ws wn wi wl).OkS := .mk (by omega) (by omega) (by omega) cw
  refine ⟨⟨kind, name, table, col, cols, rows, sets, frm, out, .mk op ⟨vk, vn, vs⟩ ws wn wi wl, ord, down, n⟩, rfl, ?_⟩
  refine ⟨?_, ?_, ?_, ?_, ?_, fun e he => ?_, hwh, ?_, ?_, ?_, c5⟩
  · show (out.length + ord.length + rows.flatten.length + sets.length + 1) * 104 ≤ 140737488355328
    generalize rows.flatten.length = rl at *
    omega
  · show rows.length * 24 ≤ _
    generalize rows.flatten.length = rl at *
    omega
  · show sets.length * 120 ≤ _; omega
  · show cols.length ≤ _; omega
  · show frm.length ≤ _; omega
  · unfold exprsM at he
    simp only [List.mem_append, List.mem_flatten, List.mem_map] at he
    rcases he with (((he | he) | ⟨r, hr1, he⟩) | ⟨x, hx, rfl⟩) | he
    · exact c9 e he
    · exact co e he
    · exact c6 r hr1 e he
    · exact c7 x hx
    · split at he
      · simp at he
      · simp only [List.mem_singleton] at he; subst he; exact hwh
  · show name.length ≤ _; omega
  · show table.length ≤ _; omega
  · show col.length ≤ _; omega
end Go.Proofs.YthkobnpogigkiaaDoor
/- A logic of abstract states, part 27: a law's call where package variables are laid. Conditions: the premises. -/
namespace Go.Abs
open Go.RowKit (Below)
set_option linter.unusedVariables false
theorem law_callsG {P : Program} {gs : Globs} {f : FuncId} {avs : List AV} (hc : CallG gs P f avs [] [] [] (aB true)) {W : World} {us : List Value} (φ : Nat → Nat) (hφ : ∀ b, W.heap.size ≤ b → φ b = 0) (hG : Glob gs (lawEnv φ) W) (hr : RelL (lawEnv φ) W avs us) :
    Calls P f us.toArray W fun e w' => e = .returned (.bool true) ∧ Below W.heap.size W w' := by
  refine (hc (lawEnv φ) W us hr ?_ hG).mono ?_
  · exact ⟨fun id b h => by simp at h, fun id t h => by simp at h, fun i j b b' h => by simp at h, fun i j t t' g h => by simp at h, fun i j b t h => by simp at h, fun i b h => by simp at h, fun i t g h => by simp at h,
      hφ, fun b _ => rfl, fun id h => by simp [keys] at h, KeptBut.refl _ _⟩
  · rintro e w' ⟨u, E', he, hu, hh⟩
    have hv := hu.iv_im
    subst hv
    refine ⟨he, ?_⟩
    have hk := hh.kept
    exact ⟨hk.os, hk.tape, hk.output, hk.size, fun k hlt => hk.block k hlt (fun ⟨id, hid, _⟩ => by simp [keys] at hid)⟩
theorem laid_strs {P : Program} {W : World} {n : String} {g : Nat} {t e : TypeId} {cs : Array Value} {fuel : Nat} {p : List MemPlace} {ws : List (List UInt8)} (hg : P.globalNamed n = some g) (hv : W.var? P n = some cs) (ht : P.underlying t = some (.slice e)) (he : P.underlying e = some .string) (hce : P.cellsOf e = 1) (hne : ws ≠ [])
    (hd : DataW.trod (fun _ => ()) P W 0 (fun _ => true) false fuel t cs.toList = some (.slice (ws.map fun s => .lit (.string s)) [], p)) :
    ∀ (i : Nat) (x : IV), [IV.sl (ws.map fun s => [S s])][i]? = some x → i < sizes W g ∧ ∃ v, W.cell? ⟨g, i, none⟩ = some v ∧ RepI (sizes W) W x v := by
  intro i x hx
  cases i with
  | succ i => simp at hx
  | zero =>
    simp only [List.getElem?_cons_zero, Option.some.injEq] at hx
    subst hx
    rcases DataW.trod_slice ht hd with ⟨_, h⟩ | ⟨a, len, cap, elems, rest, n', _, hcs, hxe, _, hlc, hcm, hel, hget, _, _⟩
    · simp at h
    · simp only [Prod.mk.injEq, DataW.slice.injEq] at hxe
      obtain ⟨⟨hm, hr⟩, _⟩ := hxe
      have hlen : len = ws.length := by rw [← hel]; have := congrArg List.length hm; simpa using this.symm
      have hcell : W.cell? ⟨g, 0, none⟩ = some (.slice (some a) len cap) := by
        rw [World.var?_cell hg hv 0, ← Array.getElem?_toList, hcs]; rfl
      have each : ∀ j s, ws[j]? = some s → W.cell? ((a.add j).add 0) = some (.string ⟨s.toArray⟩) := by
        intro j s hs
        have hj : j < ws.length := (List.getElem?_eq_some_iff.1 hs).1
        have h1 := hget j (by omega)
        rw [hce, Nat.mul_one] at h1
        have hje : elems[j]? = some elems[j] := List.getElem?_eq_getElem (by omega)
        rw [hje] at h1
        obtain ⟨c1, hc1, hc2⟩ := Option.bind_eq_some_iff.1 h1
        obtain ⟨b, rfl, hb, _⟩ := DataW.trod_string he hc2
        obtain ⟨_, hc3, hc4⟩ := World.cells?_some hc1
        have h0 := hc4 0 (by decide)
        have hmj := congrArg (fun l => l[j]?) hm
        simp only [List.getElem?_map, hs, hje, Option.map_some, Option.some.injEq] at hmj
        rw [hb] at hmj
        simp only [DataW.lit.injEq, Lit.string.injEq] at hmj
        rw [h0, hmj]
        rfl
      refine ⟨sizes_cell hcell, _, hcell, ?_⟩
      obtain ⟨b, o, spot⟩ := a
      obtain ⟨s0, hs0⟩ : ∃ s0, ws[0]? = some s0 := ⟨_, List.getElem?_eq_getElem (List.length_pos_iff.2 hne)⟩
      have hsp : spot = none := by simpa [Addr.add] using World.cell?_spot (each 0 s0 hs0)
      subst hsp
      have hl2 : len = (ws.map fun s => [S s]).length := by rw [hlen, List.length_map]
      rw [hl2]
      refine .sl (k := 1) (fun i j => .string ⟨(ws.getD i []).toArray⟩) (by omega) hcm ?_ ?_ ?_ ?_
      · intro i e' he'
        simp only [List.getElem?_map, Option.map_eq_some_iff] at he'
        obtain ⟨s, _, rfl⟩ := he'
        rfl
      all_goals
        intro i e' j x' he' hx'
        simp only [List.getElem?_map, Option.map_eq_some_iff] at he'
        obtain ⟨s, hs, rfl⟩ := he'
        have hj : j = 0 := by have := (List.getElem?_eq_some_iff.1 hx').1; simp at this; omega
        subst hj
        have hc := each i s hs
        rw [Addr.add_none, Addr.add_none] at hc
        have hgd : ws.getD i [] = s := by rw [List.getD_eq_getElem?_getD, hs]; rfl
        simp only [List.getElem?_cons_zero, Option.some.injEq] at hx'
        subst hx'
        try rw [hgd]
        first
          | (have := sizes_cell hc; omega)
          | (rw [show o + i * 1 + 0 = o + i + 0 by omega]; exact hc)
          | exact .im rfl
end Go.Abs
