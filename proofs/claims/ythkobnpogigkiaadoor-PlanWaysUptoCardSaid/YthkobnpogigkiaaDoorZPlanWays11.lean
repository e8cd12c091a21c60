/- Several texts in one, each with its own sentence ahead of it. Conditions: each one says its own. -/
import Derived.Test.YthkobnpogigkiaaDoorZPlanWays10
import Derived.LaidMore
import Derived.ChangeArms
import Derived.MakeChecks
/- Ways to rows: PlanWays answers true. Conditions: how much there is of what comes in. -/
namespace Go.Proofs.YthkobnpogigkiaaDoor
open Go.Abs
set_option maxRecDepth 100000
attribute [local irreducible] L Code.wp bodyPost Exit.then Exit.inBlock
set_option linter.unusedVariables false
set_option linter.unusedSimpArgs false
theorem Holds.db {c : Cat} {t : Tab} {ps : List Pg} {own : List (List Val)} (h : Holds c t ps own) (hg : GoodC c) (ht : t ∈ c.ts) : DB c ps (fun n => if n = t.n then own else []) where
  cat := hg
  good := h.good
  fit u hu r hr := by
    split at hr
    · rename_i e; rw [hg.tinj hu ht e]; exact h.fit r hr
    · cases hr
  dis u hu := by
    split
    · exact h.dis
    · exact .nil
  mem a b := by
    rw [h.mem]
    constructor
    · rintro ⟨r, hr, hx⟩; exact ⟨t, ht, r, by simpa using hr, hx⟩
    · rintro ⟨u, hu, r, hr, hx⟩
      split at hr
      · rename_i e; rw [hg.tinj hu ht e] at hx; exact ⟨r, hr, hx⟩
      · cases hr
theorem count_one {row : List Val} : ∀ {l : List (List Val)}, l.Nodup → l.countP (sameM row) ≤ 1
  | [], _ => by simp
  | x :: l, h => by
    rw [List.nodup_cons] at h
    rw [List.countP_cons]
    cases hx : sameM row x with
    | false => have := count_one (row := row) h.2; simpa using this
    | true =>
      have e := sameM_iff.1 hx
      subst e
      have : l.countP (sameM row) = 0 := List.countP_eq_zero.2 (fun y hy hs => by
        have := sameM_iff.1 hs
        subst this; exact h.1 hy)
      simp [this]
theorem count_in {row : List Val} {l : List (List Val)} (h : row ∈ l) : 0 < l.countP (sameM row) := List.countP_pos_iff.2 ⟨row, h, sameM_iff.2 rfl⟩
theorem count_take {α : Type} (p : α → Bool) {l : List α} {i : Nat} {x : α} (h : l[i]? = some x) : (l.take (i + 1)).countP p = (l.take i).countP p + (if p x then 1 else 0) := by
  rw [List.take_add_one, h, Option.toList_some, List.countP_append, List.countP_singleton]
set_option maxHeartbeats 16000000 in
theorem planWays_any (c : Cat) (hc : c.Ok) (s : Stm) (hok : s.Ok) (rows : List (List Val)) (hr : rows.length ≤ 140737488355328) (hrl : ∀ r ∈ rows, r.length ≤ 140737488355328) :
    CallG gs0 Tryd.prog 7 [.agg (c.c.map .iv), .agg (s.cs.map .iv), .iv (.sl (rows.map rowC))] [] [] [] (aB true) := by
  have kb := bindSt_any c hc s hok
  have kP := plans_any
  have kf := findTable_any c s.table hc.t
  obtain ⟨⟨b, f⟩, hb⟩ : ∃ r, bindStM c s = r := ⟨_, rfl⟩
  rw [hb] at kb
  dsimp only at kb
  refine CallG.intro _ Tryd.func7 rfl Tryd.ntmps7 rfl (fun w0 E0 hG => ?_)
  by_cases hf : f = 0
  case neg =>
    have q : (f != 0) = true := by simpa using hf
    obtain ⟨kind, name, table, col, cols, rows', sets, frm, out, wh, ord, down, n⟩ := s
    (repeat' (first | (refine LW.is ?_; first | (apply s_callG; exact rfl; exact hG; exact kb; exact rfl; exact rfl) | (apply s_call0; exact rfl; exact kP; exact rfl; exact rfl) | refine s_v ?_ | refine s_m ?_ | refine s_nil ?_ | refine s_gd ?_ | (refine s_gsplit rfl rfl rfl (fun hb => ?_) (fun hb => ?_) <;> refine fct hb (fun hp => ?_))) | (refine DR.is ?_; first | (apply d_callG; exact rfl; exact hG; exact kb; exact rfl; exact rfl) | (apply d_call0; exact rfl; exact kP; exact rfl; exact rfl) | refine d_v ?_ | refine d_m ?_ | (apply d_nil; kernel_rfl) | refine d_gd ?_ | (refine d_gsplit rfl rfl rfl (fun hb => ?_) (fun hb => ?_) <;> refine fct hb (fun hp => ?_))) | refine c_go ?_ | refine s_region ?_ | refine d_region ?_ | (refine L.cond rfl (fun hb => ?_) (fun hb => ?_) <;> refine fct hb (fun hp => ?_))))
    all_goals (first | (apply L.ends1; exact rfl; exact rfl; exact rfl) | (apply L.ends2; exact rfl; exact rfl; exact rfl) | (apply L.ends3; exact rfl; exact rfl; exact rfl) | (apply L.ends1A; exact rfl; exact rfl; exact rfl) | (apply L.ends2A; exact rfl; exact rfl; exact rfl) | (apply L.ends3A; exact rfl; exact rfl; exact rfl))
    all_goals rfl
  subst hf
  have q : ((0 : Int) != 0) = false := rfl
  by_cases hk : s.kind = 5
  case neg =>
    have q5 : (s.kind != 5) = true := by simpa using hk
    obtain ⟨kind, name, table, col, cols, rows', sets, frm, out, wh, ord, down, n⟩ := s
    (repeat' (first | (refine LW.is ?_; first | (apply s_callG; exact rfl; exact hG; exact kb; exact rfl; exact rfl) | (apply s_call0; exact rfl; exact kP; exact rfl; exact rfl) | refine s_v ?_ | refine s_m ?_ | refine s_nil ?_ | refine s_gd ?_ | (refine s_gsplit rfl rfl rfl (fun hb => ?_) (fun hb => ?_) <;> refine fct hb (fun hp => ?_))) | (refine DR.is ?_; first | (apply d_callG; exact rfl; exact hG; exact kb; exact rfl; exact rfl) | (apply d_call0; exact rfl; exact kP; exact rfl; exact rfl) | refine d_v ?_ | refine d_m ?_ | (apply d_nil; kernel_rfl) | refine d_gd ?_ | (refine d_gsplit rfl rfl rfl (fun hb => ?_) (fun hb => ?_) <;> refine fct hb (fun hp => ?_))) | refine c_go ?_ | refine s_region ?_ | refine d_region ?_ | (refine L.cond rfl (fun hb => ?_) (fun hb => ?_) <;> refine fct hb (fun hp => ?_))))
    all_goals (first | (apply L.ends1; exact rfl; exact rfl; exact rfl) | (apply L.ends2; exact rfl; exact rfl; exact rfl) | (apply L.ends3; exact rfl; exact rfl; exact rfl) | (apply L.ends1A; exact rfl; exact rfl; exact rfl) | (apply L.ends2A; exact rfl; exact rfl; exact rfl) | (apply L.ends3A; exact rfl; exact rfl; exact rfl))
    all_goals rfl
  have q5 : (s.kind != 5) = false := by simp [hk]
  have U := upd_of (.inr (.inl hk)) hb
  have hgc := (goodC_iff c).1 U.good
  obtain ⟨hmem, hnm⟩ := findT_in U.tab
  have hgt := hgc.tabs _ hmem
  obtain ⟨ht1, ht0, ht2⟩ := goodTab_iff hgt
  obtain ⟨hi1, hi2⟩ := goodCat_is U.good
  have hwh : b.wh.Ok := by have := where_ok (ts := [(findT c s.table).1]) hok.wh.ok; rw [U.wh] at this; exact this
  obtain ⟨hpn, hpb⟩ := where_small U.wh (fun h0 => U.form s.wh (by unfold exprsM; rw [if_neg h0]; simp))
  have hat : (atM [(findT c s.table).1] : Int) ≤ 4 := by simp [atM]; omega
  rw [show (findT c s.table).2 = true from U.tab] at kf
  clear U
  generalize (findT c s.table).1 = t at *
  have ht0 : t.cols.length ≠ 0 := by omega
  have kk := kept_any c t rows ht1 ht2 ht0 hi1 hi2 hr hrl
  have hkp : Kept c t (keptM c t rows) := kept_ok ht0 rows ⟨Holds.nil c t, by simp, by simp⟩
  generalize keptM c t rows = st at *
  obtain ⟨ps, own⟩ := st
  obtain ⟨hH, hn20, hpl⟩ := hkp
  dsimp only at hH hn20 hpl kk
  have hpl2 : ps.length ≤ 100 := Nat.le_trans hpl (Nat.le_trans (Nat.mul_le_mul hn20 (Nat.add_le_add_right hi1 1)) (by decide))
  have hdb := hH.db hgc hmem
  have hown : (if t.n = t.n then own else []) = own := if_pos rfl
  have hfine := choose_fine hdb hmem [] b.wh
  rw [hown] at hfine
  have hnd : own.Nodup := by have := hdb.nodup hmem; rwa [hown] at this
  have kc := chooseW_any c t 0 b.wh (by omega) (by omega) (by omega) (fun p hp => by have := hpb p hp; omega) (by omega) (by omega) (by omega) (fun x hx => by have := hi2 x hx; omega)
  rw [show ((([] : List Val).length : Nat) : Int) = 0 from rfl] at hfine
  generalize chooseW c t 0 b.wh = W at *
  obtain ⟨hW, P, hperm, hP⟩ := hfine
  have kr := rowsT_any ps t W (by omega) (holds_small hH ht1 ht2 hi2) (by omega) (by omega)
  generalize rowsT ps t W = A at *
  have hle : A.length ≤ own.length := by rw [hperm.length_eq]; exact List.length_filter_le _ _
  have hc1 : ∀ row, A.countP (sameM row) ≤ 1 := fun row => by rw [hperm.countP_eq]; exact count_one (hnd.filter _)
  have hc0 : ∀ row ∈ own, A.countP (sameM row) = 0 → (b.wh.op == 0) = false ∧ (ofM (evalM row b.wh) == 1) = false := fun row hr0 hz => by
    have : P row = false := by
      cases hp : P row with
      | false => rfl
      | true =>
        rw [hperm.countP_eq] at hz
        have := count_in (List.mem_filter.2 ⟨hr0, hp⟩ : row ∈ own.filter P)
        omega
    have hn : ¬ holdsM b.wh ([] ++ row) = true := fun hh => by rw [hP row hr0 hh] at this; cases this
    simp only [List.nil_append, holdsM, Bool.or_eq_true, not_or, Bool.not_eq_true] at hn
    exact hn
  have hfit : ∀ r ∈ own, r.length ≤ 4 := fun r hr0 => by have := (hH.fit r hr0).1; omega
  clear hP hperm hH hdb hown hpb hpn hat hmem hgt hgc hb hpl hnd
  obtain ⟨kind, name, table, col, cols, rows', sets, frm, out, wh, ord, down, n⟩ := s
  (repeat' (first | (refine LW.is ?_; first | (apply s_callG; exact rfl; exact hG; exact kb; exact rfl; exact rfl) | (apply s_call0; exact rfl; exact kP; exact rfl; exact rfl) | (apply s_call0; exact rfl; exact kf; exact rfl; exact rfl) | (apply s_call0; exact rfl; exact kk; exact rfl; exact rfl) | (apply s_call0; exact rfl; exact kc; exact rfl; exact rfl) | (apply s_call0; exact rfl; exact kr; exact rfl; exact rfl) | refine s_v ?_ | refine s_m ?_ | refine s_nil ?_ | refine s_gd ?_ | (refine s_gsplit rfl rfl rfl (fun hb => ?_) (fun hb => ?_) <;> refine fct hb (fun hp => ?_))) | (refine DR.is ?_; first | (apply d_callG; exact rfl; exact hG; exact kb; exact rfl; exact rfl) | (apply d_call0; exact rfl; exact kP; exact rfl; exact rfl) | (apply d_call0; exact rfl; exact kf; exact rfl; exact rfl) | (apply d_call0; exact rfl; exact kk; exact rfl; exact rfl) | (apply d_call0; exact rfl; exact kc; exact rfl; exact rfl) | (apply d_call0; exact rfl; exact kr; exact rfl; exact rfl) | refine d_v ?_ | refine d_m ?_ | (apply d_nil; kernel_rfl) | refine d_gd ?_ | (refine d_gsplit rfl rfl rfl (fun hb => ?_) (fun hb => ?_) <;> refine fct hb (fun hp => ?_))) | refine c_go ?_ | refine s_region ?_ | refine d_region ?_ | (refine L.cond rfl (fun hb => ?_) (fun hb => ?_) <;> refine fct hb (fun hp => ?_))))
  refine L.loopP (ι := Nat) (fun i => ⟨[(61, aI (i : Int)), (60, aI ((own.map rowC).length : Int)), (59, .iv (.sl (own.map rowC))), (13, .iv (.sl (A.map rowC))), (12, .iv (.sl (own.map rowC))), (7, .ptr 7 0)],
    [(7, ⟨36, .l (b.cs.map .iv)⟩)], []⟩) (fun i => own.length - i) (fun i => True) (i0 := 0) ?_ trivial ?_
  · (refine Wk.mk' (by intro id h; cases h) ?_ ?_ ?_ <;> repeat' (first | exact WkF.nil | exact WkB.nil | exact WkT.nil | (refine WkF.cons rfl (Sub.refl _) ?_) | (refine WkB.cons rfl rfl (Subs.refl _) ?_) | (refine WkT.cons rfl ?_)))
  intro i _ K hK
  cases hx : own[i]? with
  | none =>
    have hlt := ltF (l := own.map rowC) (getFN hx)
    have hq : decide (((A.map rowC).length : Int) ≤ ((own.map rowC).length : Int)) = true := decide_eq_true (by rw [List.length_map, List.length_map]; omega)
    (repeat' (first | (refine LW.is ?_; first | refine s_v ?_ | refine s_m ?_ | refine s_nil ?_ | refine s_gd ?_ | (refine s_gsplit rfl rfl rfl (fun hb => ?_) (fun hb => ?_) <;> refine fct hb (fun hp => ?_))) | (refine DR.is ?_; first | refine d_v ?_ | refine d_m ?_ | (apply d_nil; kernel_rfl) | refine d_gd ?_ | (refine d_gsplit rfl rfl rfl (fun hb => ?_) (fun hb => ?_) <;> refine fct hb (fun hp => ?_))) | refine c_go ?_ | refine s_region ?_ | refine d_region ?_ | (refine L.cond rfl (fun hb => ?_) (fun hb => ?_) <;> refine fct hb (fun hp => ?_))))
    all_goals (first | (apply L.ends1; exact rfl; exact rfl; exact rfl) | (apply L.ends2; exact rfl; exact rfl; exact rfl) | (apply L.ends3; exact rfl; exact rfl; exact rfl) | (apply L.ends1A; exact rfl; exact rfl; exact rfl) | (apply L.ends2A; exact rfl; exact rfl; exact rfl) | (apply L.ends3A; exact rfl; exact rfl; exact rfl))
    all_goals (rw [hq])
  | some row =>
    have hlt := ltT (l := own.map rowC) (getF (f := rowC) hx)
    have hlt' := ltN hx
    have g1 : (own.map rowC)[((i : Nat) : Int).toNat]? = some [.sl (row.map Val.c)] := by rw [Int.toNat_natCast, List.getElem?_map, hx]; rfl
    have hmem := List.mem_of_getElem? hx
    have hrow := hfit row hmem
    (repeat' (first | (refine LW.is ?_; first | (apply s_vr; exact rfl; apply v_indexA; exact rfl; exact rfl; omega; exact g1; exact rfl) | refine s_v ?_ | refine s_m ?_ | refine s_nil ?_ | refine s_gd ?_ | (refine s_gsplit rfl rfl rfl (fun hb => ?_) (fun hb => ?_) <;> refine fct hb (fun hp => ?_))) | (refine DR.is ?_; first | (apply d_vr; exact rfl; apply v_indexA; exact rfl; exact rfl; omega; exact g1; exact rfl) | refine d_v ?_ | refine d_m ?_ | (apply d_nil; kernel_rfl) | refine d_gd ?_ | (refine d_gsplit rfl rfl rfl (fun hb => ?_) (fun hb => ?_) <;> refine fct hb (fun hp => ?_))) | refine c_go ?_ | refine s_region ?_ | refine d_region ?_ | (refine L.cond rfl (fun hb => ?_) (fun hb => ?_) <;> refine fct hb (fun hp => ?_))))
    refine L.loopP (ι := Nat) (fun j => ⟨[(67, aI (j : Int)), (66, aI ((A.map rowC).length : Int)), (65, .iv (.sl (A.map rowC))), (16, aI (((A.take j).countP (sameM row) : Nat) : Int)), (15, .iv (.sl (row.map Val.c))), (61, aI (i : Int)), (60, aI ((own.map rowC).length : Int)), (59, .iv (.sl (own.map rowC))), (13, .iv (.sl (A.map rowC))), (12, .iv (.sl (own.map rowC))), (7, .ptr 7 0)],
      [(7, ⟨36, .l (b.cs.map .iv)⟩)], []⟩) (fun j => A.length - j) (fun j => True) (i0 := 0) ?_ trivial ?_
    · (refine Wk.mk' (by intro id h; cases h) ?_ ?_ ?_ <;> repeat' (first | exact WkF.nil | exact WkB.nil | exact WkT.nil | (refine WkF.cons rfl (Sub.refl _) ?_) | (refine WkB.cons rfl rfl (Subs.refl _) ?_) | (refine WkT.cons rfl ?_)))
    intro j _ K2 hK2
    cases hy : A[j]? with
    | some x =>
      have hlt2 := ltT (l := A.map rowC) (getF (f := rowC) hy)
      have hlt2' := ltN hy
      have g2 : (A.map rowC)[((j : Nat) : Int).toNat]? = some [.sl (x.map Val.c)] := by rw [Int.toNat_natCast, List.getElem?_map, hy]; rfl
      have ks := same_any row x (by omega)
      have hct := count_take (sameM row) hy
      have hcb : (A.take j).countP (sameM row) ≤ 20 := by
        have := List.countP_le_length (p := sameM row) (l := A.take j)
        rw [List.length_take] at this; omega
      cases hs : sameM row x with
      | true =>
        rw [hs] at ks hct
        rw [if_pos rfl] at hct
        (repeat' (first | (refine LW.is ?_; first | (apply s_vr; exact rfl; apply v_indexA; exact rfl; exact rfl; omega; exact g2; exact rfl) | (apply s_call0; exact rfl; exact ks; exact rfl; exact rfl) | refine s_v ?_ | refine s_m ?_ | refine s_nil ?_ | refine s_gd ?_ | (refine s_gsplit rfl rfl rfl (fun hb => ?_) (fun hb => ?_) <;> refine fct hb (fun hp => ?_))) | (refine DR.is ?_; first | (apply d_vr; exact rfl; apply v_indexA; exact rfl; exact rfl; omega; exact g2; exact rfl) | (apply d_call0; exact rfl; exact ks; exact rfl; exact rfl) | refine d_v ?_ | refine d_m ?_ | (apply d_nil; kernel_rfl) | refine d_gd ?_ | (refine d_gsplit rfl rfl rfl (fun hb => ?_) (fun hb => ?_) <;> refine fct hb (fun hp => ?_))) | refine c_go ?_ | refine s_region ?_ | refine d_region ?_ | (refine L.cond rfl (fun hb => ?_) (fun hb => ?_) <;> refine fct hb (fun hp => ?_))))
        refine hK2 _ (j + 1) trivial (by omega) ?_
        rw [hct]
        (refine Wk.mk' (by intro id h; cases h) ?_ ?_ ?_ <;> repeat' (first | exact WkF.nil | exact WkB.nil | exact WkT.nil | (refine WkF.cons rfl (Sub.refl _) ?_) | (refine WkB.cons rfl rfl (Subs.refl _) ?_) | (refine WkT.cons rfl ?_)))
      | false =>
        rw [hs] at ks hct
        rw [if_neg (by decide), Nat.add_zero] at hct
        (repeat' (first | (refine LW.is ?_; first | (apply s_vr; exact rfl; apply v_indexA; exact rfl; exact rfl; omega; exact g2; exact rfl) | (apply s_call0; exact rfl; exact ks; exact rfl; exact rfl) | refine s_v ?_ | refine s_m ?_ | refine s_nil ?_ | refine s_gd ?_ | (refine s_gsplit rfl rfl rfl (fun hb => ?_) (fun hb => ?_) <;> refine fct hb (fun hp => ?_))) | (refine DR.is ?_; first | (apply d_vr; exact rfl; apply v_indexA; exact rfl; exact rfl; omega; exact g2; exact rfl) | (apply d_call0; exact rfl; exact ks; exact rfl; exact rfl) | refine d_v ?_ | refine d_m ?_ | (apply d_nil; kernel_rfl) | refine d_gd ?_ | (refine d_gsplit rfl rfl rfl (fun hb => ?_) (fun hb => ?_) <;> refine fct hb (fun hp => ?_))) | refine c_go ?_ | refine s_region ?_ | refine d_region ?_ | (refine L.cond rfl (fun hb => ?_) (fun hb => ?_) <;> refine fct hb (fun hp => ?_))))
        refine hK2 _ (j + 1) trivial (by omega) ?_
        rw [hct]
        (refine Wk.mk' (by intro id h; cases h) ?_ ?_ ?_ <;> repeat' (first | exact WkF.nil | exact WkB.nil | exact WkT.nil | (refine WkF.cons rfl (Sub.refl _) ?_) | (refine WkB.cons rfl rfl (Subs.refl _) ?_) | (refine WkT.cons rfl ?_)))
    | none =>
      have hlt2 := ltF (l := A.map rowC) (getFN hy)
      rw [take_all hy]
      have h1 := hc1 row
      have ke := eval_any row b.wh hwh
      rw [Ex.c_cs] at ke
      have ko := of_any (evalM row b.wh)
      by_cases hz : A.countP (sameM row) = 0
      · obtain ⟨p1, p2⟩ := hc0 row hmem hz
        rw [hz]
        generalize evalM row b.wh = v at *
        (repeat' (first | (refine LW.is ?_; first | (apply s_call0; exact rfl; exact ke; exact rfl; exact rfl) | (apply s_call0; exact rfl; exact ko; exact rfl; exact rfl) | refine s_v ?_ | refine s_m ?_ | refine s_nil ?_ | refine s_gd ?_ | (refine s_gsplit rfl rfl rfl (fun hb => ?_) (fun hb => ?_) <;> refine fct hb (fun hp => ?_))) | (refine DR.is ?_; first | (apply d_call0; exact rfl; exact ke; exact rfl; exact rfl) | (apply d_call0; exact rfl; exact ko; exact rfl; exact rfl) | refine d_v ?_ | refine d_m ?_ | (apply d_nil; kernel_rfl) | refine d_gd ?_ | (refine d_gsplit rfl rfl rfl (fun hb => ?_) (fun hb => ?_) <;> refine fct hb (fun hp => ?_))) | refine c_go ?_ | refine s_region ?_ | refine d_region ?_ | (refine L.cond rfl (fun hb => ?_) (fun hb => ?_) <;> refine fct hb (fun hp => ?_))))
        refine hK _ (i + 1) trivial (by omega) ?_
        (refine Wk.mk' (by intro id h; cases h) ?_ ?_ ?_ <;> repeat' (first | exact WkF.nil | exact WkB.nil | exact WkT.nil | (refine WkF.cons rfl (Sub.refl _) ?_) | (refine WkB.cons rfl rfl (Subs.refl _) ?_) | (refine WkT.cons rfl ?_)))
      · have hz1 : A.countP (sameM row) = 1 := by omega
        rw [hz1]
        (repeat' (first | (refine LW.is ?_; first | refine s_v ?_ | refine s_m ?_ | refine s_nil ?_ | refine s_gd ?_ | (refine s_gsplit rfl rfl rfl (fun hb => ?_) (fun hb => ?_) <;> refine fct hb (fun hp => ?_))) | (refine DR.is ?_; first | refine d_v ?_ | refine d_m ?_ | (apply d_nil; kernel_rfl) | refine d_gd ?_ | (refine d_gsplit rfl rfl rfl (fun hb => ?_) (fun hb => ?_) <;> refine fct hb (fun hp => ?_))) | refine c_go ?_ | refine s_region ?_ | refine d_region ?_ | (refine L.cond rfl (fun hb => ?_) (fun hb => ?_) <;> refine fct hb (fun hp => ?_))))
        refine hK _ (i + 1) trivial (by omega) ?_
        (refine Wk.mk' (by intro id h; cases h) ?_ ?_ ?_ <;> repeat' (first | exact WkF.nil | exact WkB.nil | exact WkT.nil | (refine WkF.cons rfl (Sub.refl _) ?_) | (refine WkB.cons rfl rfl (Subs.refl _) ?_) | (refine WkT.cons rfl ?_)))
end Go.Proofs.YthkobnpogigkiaaDoor
/- A logic of abstract states, part 27: a law's call where package variables are laid. Conditions: the premises. -/
namespace Go.Abs
open Go.RowKit (Below)
set_option linter.unusedVariables false
theorem law_callsG {P : Program} {gs : Globs} {f : FuncId} {avs : List AV} (hc : CallG gs P f avs [] [] [] (aB true)) {W : World} {us : List Value} (φ : Nat → Nat) (hφ : ∀ b, W.heap.size ≤ b → φ b = 0) (hG : Glob gs (lawEnv φ) W) (hr : RelL (lawEnv φ) W avs us) :
    Calls P f us.toArray W fun e w' => e = .returned (.bool true) ∧ Below W.heap.size W w' := by
  refine (hc (lawEnv φ) W us hr ?_ hG).mono ?_
  · exact ⟨fun id b h => by simp at h, fun id t h => by simp at h, fun i j b b' h => by simp at h, fun i j t t' g h => by simp at h, fun i j b t h => by simp at h, fun i b h => by simp at h, fun i t g h => by simp at h,
      hφ, fun b _ => rfl, fun id h => by simp [keys] at h, KeptBut.refl _ _⟩
  · rintro e w' ⟨u, E', he, hu, hh⟩
    have hv := hu.iv_im
    subst hv
    refine ⟨he, ?_⟩
    have hk := hh.kept
    exact ⟨hk.os, hk.tape, hk.output, hk.size, fun k hlt => hk.block k hlt (fun ⟨id, hid, _⟩ => by simp [keys] at hid)⟩
theorem laid_strs {P : Program} {W : World} {n : String} {g : Nat} {t e : TypeId} {cs : Array Value} {fuel : Nat} {p : List MemPlace} {ws : List (List UInt8)} (hg : P.globalNamed n = some g) (hv : W.var? P n = some cs) (ht : P.underlying t = some (.slice e)) (he : P.underlying e = some .string) (hce : P.cellsOf e = 1) (hne : ws ≠ [])
    (hd : DataW.trod (fun _ => ()) P W 0 (fun _ => true) false fuel t cs.toList = some (.slice (ws.map fun s => .lit (.string s)) [], p)) :
    ∀ (i : Nat) (x : IV), [IV.sl (ws.map fun s => [S s])][i]? = some x → i < sizes W g ∧ ∃ v, W.cell? ⟨g, i, none⟩ = some v ∧ RepI (sizes W) W x v := by
  intro i x hx
  cases i with
  | succ i => simp at hx
  | zero =>
    simp only [List.getElem?_cons_zero, Option.some.injEq] at hx
    subst hx
    rcases DataW.trod_slice ht hd with ⟨_, h⟩ | ⟨a, len, cap, elems, rest, n', _, hcs, hxe, _, hlc, hcm, hel, hget, _, _⟩
    · simp at h
    · simp only [Prod.mk.injEq, DataW.slice.injEq] at hxe
      obtain ⟨⟨hm, hr⟩, _⟩ := hxe
      have hlen : len = ws.length := by rw [← hel]; have := congrArg List.length hm; simpa using this.symm
      have hcell : W.cell? ⟨g, 0, none⟩ = some (.slice (some a) len cap) := by
        rw [World.var?_cell hg hv 0, ← Array.getElem?_toList, hcs]; rfl
      have each : ∀ j s, ws[j]? = some s → W.cell? ((a.add j).add 0) = some (.string ⟨s.toArray⟩) := by
        intro j s hs
        have hj : j < ws.length := (List.getElem?_eq_some_iff.1 hs).1
        have h1 := hget j (by omega)
        rw [hce, Nat.mul_one] at h1
        have hje : elems[j]? = some elems[j] := List.getElem?_eq_getElem (by omega)
        rw [hje] at h1
        obtain ⟨c1, hc1, hc2⟩ := Option.bind_eq_some_iff.1 h1
        obtain ⟨b, rfl, hb, _⟩ := DataW.trod_string he hc2
        obtain ⟨_, hc3, hc4⟩ := World.cells?_some hc1
        have h0 := hc4 0 (by decide)
        have hmj := congrArg (fun l => l[j]?) hm
        simp only [List.getElem?_map, hs, hje, Option.map_some, Option.some.injEq] at hmj
        rw [hb] at hmj
        simp only [DataW.lit.injEq, Lit.string.injEq] at hmj
        rw [h0, hmj]
        rfl
      refine ⟨sizes_cell hcell, _, hcell, ?_⟩
      obtain ⟨b, o, spot⟩ := a
      obtain ⟨s0, hs0⟩ : ∃ s0, ws[0]? = some s0 := ⟨_, List.getElem?_eq_getElem (List.length_pos_iff.2 hne)⟩
      have hsp : spot = none := by simpa [Addr.add] using World.cell?_spot (each 0 s0 hs0)
      subst hsp
      have hl2 : len = (ws.map fun s => [S s]).length := by rw [hlen, List.length_map]
      rw [hl2]
      refine .sl (k := 1) (fun i j => .string ⟨(ws.getD i []).toArray⟩) (by omega) hcm ?_ ?_ ?_ ?_
      · intro i e' he'
        simp only [List.getElem?_map, Option.map_eq_some_iff] at he'
        obtain ⟨s, _, rfl⟩ := he'
        rfl
      all_goals
        intro i e' j x' he' hx'
        simp only [List.getElem?_map, Option.map_eq_some_iff] at he'
        obtain ⟨s, hs, rfl⟩ := he'
        have hj : j = 0 := by have := (List.getElem?_eq_some_iff.1 hx').1; simp at this; omega
        subst hj
        have hc := each i s hs
        rw [Addr.add_none, Addr.add_none] at hc
        have hgd : ws.getD i [] = s := by rw [List.getD_eq_getElem?_getD, hs]; rfl
        simp only [List.getElem?_cons_zero, Option.some.injEq] at hx'
        subst hx'
        try rw [hgd]
        first
          | (have := sizes_cell hc; omega)
          | (rw [show o + i * 1 + 0 = o + i + 0 by omega]; exact hc)
          | exact .im rfl
end Go.Abs
