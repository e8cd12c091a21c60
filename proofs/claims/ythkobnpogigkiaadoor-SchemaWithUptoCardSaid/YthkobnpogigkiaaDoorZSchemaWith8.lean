/- Several texts in one, each with its own sentence ahead of it. Conditions: each one says its own. -/
import Derived.Test.YthkobnpogigkiaaDoorZSchemaWith7
import Derived.Lib.Bytealg
/- Tables and indexes: where a name is, by halving. Conditions: the names rise; how much there is of what comes in. -/
namespace Go.Abs
set_option linter.unusedVariables false
theorem Yields.cmpB {P : Program} {c : Ctx} {st : St} {o : Oper} {f : FuncId} {x y : Operand} {ats : Array TypeId} {m n : List UInt8} (ho : o.op = .call { callee := .value (.func f), args := #[x, y], argTypes := ats })
    (hok : extOk P f Extern.BytealgCompare.compare) (hx : st.ev x = aS m) (hy : st.ev y = aS n) : Yields P c st o (aI (Lib.compareBytes m n)) :=
  .im rfl fun E a w hi => by
    obtain ⟨fn, hf, h1, h2, h3, h4⟩ := hok
    have e1 := hi.im hx
    have e2 := hi.im hy
    have hrun := run_callFunc_extern hf h1 h2 h3 h4 #[.string ⟨m.toArray⟩, .string ⟨n.toArray⟩] w
    rw [Lib.run_compareString] at hrun
    have : (execOp a.eval o).run P w = (callFunc f #[a.eval x, a.eval y]).run P w := by
      simp [execOp, ho, resolve, Deferred.ofValue, Act.eval, invoke]
    rw [this, e1, e2, hrun]
    simp [Result.andThen]
theorem v_cmpB {P : Program} {c : Ctx} {fr : List (Nat × AV)} {bx : List (Nat × Box)} {tk : List (Nat × Tok)} {d : Nat} {ty : TypeId} {pos : String} {aft : Array Edge} {f : FuncId} {x y : Operand} {ats : Array TypeId} {m n : List UInt8}
    (hok : extOk P f Extern.BytealgCompare.compare) (hx : St.ev ⟨fr, bx, tk⟩ x = aS m) (hy : St.ev ⟨fr, bx, tk⟩ y = aS n) : VV P c ⟨fr, bx, tk⟩ ⟨some d, .call { callee := .value (.func f), args := #[x, y], argTypes := ats }, ty, pos, aft, none⟩ (aI (Lib.compareBytes m n)) [] :=
  .mk fun st' kE kL => .cmpB rfl hok ((kE x (by simp [Op.operands, Call.operands])).trans hx) ((kE y (by simp [Op.operands, Call.operands])).trans hy)
end Go.Abs
namespace Go.Proofs.YthkobnpogigkiaaDoor
open Go.Abs
set_option maxRecDepth 100000
attribute [local irreducible] L Code.wp bodyPost Exit.then Exit.inBlock
set_option linter.unusedVariables false
set_option linter.unusedSimpArgs false
theorem cmp_lt : ∀ a b : Str, decide (Lib.compareBytes a b < 0) = decide (a < b)
  | [], [] => by simp [Lib.compareBytes]
  | [], _ :: _ => by simp [Lib.compareBytes]
  | _ :: _, [] => by simp [Lib.compareBytes]
  | a :: l, b :: m => by
    have ih := cmp_lt l m
    unfold Lib.compareBytes
    rw [Bool.eq_iff_iff] at ih ⊢
    simp only [decide_eq_true_eq, List.cons_lt_cons_iff] at ih ⊢
    by_cases h1 : a < b
    · simp [h1]
    · by_cases h2 : b < a
      · have : a ≠ b := fun e => by subst e; exact h1 h2
        simp [h1, h2, this]
      · have : a = b := UInt8.le_antisymm (UInt8.not_lt.1 h2) (UInt8.not_lt.1 h1)
        subst this
        simp [h1, ih]
theorem cmp_eq : ∀ a b : Str, (Lib.compareBytes a b == 0) = (a == b)
  | [], [] => by simp [Lib.compareBytes]
  | [], _ :: _ => by simp [Lib.compareBytes]
  | _ :: _, [] => by simp [Lib.compareBytes]
  | a :: l, b :: m => by
    have ih := cmp_eq l m
    unfold Lib.compareBytes
    rw [Bool.eq_iff_iff] at ih ⊢
    simp only [beq_iff_eq, List.cons.injEq] at ih ⊢
    by_cases h1 : a < b
    · have : a ≠ b := fun e => by subst e; exact absurd h1 (UInt8.lt_irrefl _)
      simp [h1, this]
    · by_cases h2 : b < a
      · have : a ≠ b := fun e => by subst e; exact h1 h2
        simp [h1, h2, this]
      · have : a = b := UInt8.le_antisymm (UInt8.not_lt.1 h2) (UInt8.not_lt.1 h1)
        subst this
        simp [h1, ih]
theorem extCmp : extOk Tryd.prog 125 Extern.BytealgCompare.compare := ⟨Tryd.f125, Tryd.func125, by kernel_rfl, by kernel_rfl, by kernel_rfl, by kernel_rfl⟩
theorem cmpString_any (a b : Str) : CallA Tryd.prog 98 [aS a, aS b] [] [] [] (aI (Lib.compareBytes a b)) := by
  refine CallA.intro _ Tryd.func98 rfl Tryd.ntmps98 rfl (fun w0 E0 => ?_)
  (repeat' (first | (apply s_vr; exact rfl; apply v_cmpB; exact extCmp; exact rfl; exact rfl) | (refine LW.is ?_; first | refine s_v ?_ | refine s_m ?_ | refine s_nil ?_ | refine s_gd ?_ | (refine s_gsplit rfl rfl rfl (fun hb => ?_) (fun hb => ?_) <;> refine fct hb (fun hp => ?_))) | (refine DR.is ?_; first | refine d_v ?_ | refine d_m ?_ | (apply d_nil; kernel_rfl) | refine d_gd ?_ | (refine d_gsplit rfl rfl rfl (fun hb => ?_) (fun hb => ?_) <;> refine fct hb (fun hp => ?_))) | refine c_go ?_ | refine s_region ?_ | refine d_region ?_ | (refine L.cond rfl (fun hb => ?_) (fun hb => ?_) <;> refine fct hb (fun hp => ?_))))
  all_goals (first | (apply L.ends1; exact rfl; exact rfl; exact rfl) | (apply L.ends2; exact rfl; exact rfl; exact rfl) | (apply L.ends3; exact rfl; exact rfl; exact rfl) | (apply L.ends1A; exact rfl; exact rfl; exact rfl) | (apply L.ends2A; exact rfl; exact rfl; exact rfl) | (apply L.ends3A; exact rfl; exact rfl; exact rfl))
  all_goals rfl
theorem compare_any (a b : Str) : CallA Tryd.prog 61 [aS a, aS b] [] [] [] (aI (Lib.compareBytes a b)) := by
  refine CallA.intro _ Tryd.func61 rfl Tryd.ntmps61 rfl (fun w0 E0 => ?_)
  (repeat' (first | (refine LW.is ?_; first | (apply s_call0; exact rfl; rotate_left; exact rfl; rotate_left 3; exact cmpString_any a b; exact rfl) | refine s_v ?_ | refine s_m ?_ | refine s_nil ?_ | refine s_gd ?_ | (refine s_gsplit rfl rfl rfl (fun hb => ?_) (fun hb => ?_) <;> refine fct hb (fun hp => ?_))) | (refine DR.is ?_; first | (apply d_call0; exact rfl; rotate_left; exact rfl; rotate_left 3; exact cmpString_any a b; exact rfl) | refine d_v ?_ | refine d_m ?_ | (apply d_nil; kernel_rfl) | refine d_gd ?_ | (refine d_gsplit rfl rfl rfl (fun hb => ?_) (fun hb => ?_) <;> refine fct hb (fun hp => ?_))) | refine c_go ?_ | refine s_region ?_ | refine d_region ?_ | (refine L.cond rfl (fun hb => ?_) (fun hb => ?_) <;> refine fct hb (fun hp => ?_))))
  all_goals (first | (apply L.ends1; exact rfl; exact rfl; exact rfl) | (apply L.ends2; exact rfl; exact rfl; exact rfl) | (apply L.ends3; exact rfl; exact rfl; exact rfl) | (apply L.ends1A; exact rfl; exact rfl; exact rfl) | (apply L.ends2A; exact rfl; exact rfl; exact rfl) | (apply L.ends3A; exact rfl; exact rfl; exact rfl))
  all_goals rfl
theorem with1_any (a b : Str) (cols : IV) : CallA Tryd.prog 60 [.agg [.iv (S a), .iv cols], aS b] [] [] [] (aI (Lib.compareBytes a b)) := by
  refine CallA.intro _ Tryd.func60 rfl Tryd.ntmps60 rfl (fun w0 E0 => ?_)
  (repeat' (first | (refine LW.is ?_; first | (apply s_call0; exact rfl; rotate_left; exact rfl; rotate_left 3; exact compare_any a b; exact rfl) | refine s_v ?_ | refine s_m ?_ | refine s_nil ?_ | refine s_gd ?_ | (refine s_gsplit rfl rfl rfl (fun hb => ?_) (fun hb => ?_) <;> refine fct hb (fun hp => ?_))) | (refine DR.is ?_; first | (apply d_call0; exact rfl; rotate_left; exact rfl; rotate_left 3; exact compare_any a b; exact rfl) | refine d_v ?_ | refine d_m ?_ | (apply d_nil; kernel_rfl) | refine d_gd ?_ | (refine d_gsplit rfl rfl rfl (fun hb => ?_) (fun hb => ?_) <;> refine fct hb (fun hp => ?_))) | refine c_go ?_ | refine s_region ?_ | refine d_region ?_ | (refine L.cond rfl (fun hb => ?_) (fun hb => ?_) <;> refine fct hb (fun hp => ?_))))
  all_goals (first | (apply L.ends1; exact rfl; exact rfl; exact rfl) | (apply L.ends2; exact rfl; exact rfl; exact rfl) | (apply L.ends3; exact rfl; exact rfl; exact rfl) | (apply L.ends1A; exact rfl; exact rfl; exact rfl) | (apply L.ends2A; exact rfl; exact rfl; exact rfl) | (apply L.ends3A; exact rfl; exact rfl; exact rfl))
  all_goals rfl
theorem with2_any (a b : Str) (x y : IV) : CallA Tryd.prog 64 [.agg [.iv (S a), .iv x, .iv y], aS b] [] [] [] (aI (Lib.compareBytes a b)) := by
  refine CallA.intro _ Tryd.func64 rfl Tryd.ntmps64 rfl (fun w0 E0 => ?_)
  (repeat' (first | (refine LW.is ?_; first | (apply s_call0; exact rfl; rotate_left; exact rfl; rotate_left 3; exact compare_any a b; exact rfl) | refine s_v ?_ | refine s_m ?_ | refine s_nil ?_ | refine s_gd ?_ | (refine s_gsplit rfl rfl rfl (fun hb => ?_) (fun hb => ?_) <;> refine fct hb (fun hp => ?_))) | (refine DR.is ?_; first | (apply d_call0; exact rfl; rotate_left; exact rfl; rotate_left 3; exact compare_any a b; exact rfl) | refine d_v ?_ | refine d_m ?_ | (apply d_nil; kernel_rfl) | refine d_gd ?_ | (refine d_gsplit rfl rfl rfl (fun hb => ?_) (fun hb => ?_) <;> refine fct hb (fun hp => ?_))) | refine c_go ?_ | refine s_region ?_ | refine d_region ?_ | (refine L.cond rfl (fun hb => ?_) (fun hb => ?_) <;> refine fct hb (fun hp => ?_))))
  all_goals (first | (apply L.ends1; exact rfl; exact rfl; exact rfl) | (apply L.ends2; exact rfl; exact rfl; exact rfl) | (apply L.ends3; exact rfl; exact rfl; exact rfl) | (apply L.ends1A; exact rfl; exact rfl; exact rfl) | (apply L.ends2A; exact rfl; exact rfl; exact rfl) | (apply L.ends3A; exact rfl; exact rfl; exact rfl))
  all_goals rfl
theorem rowAt {k i : Nat} {es : List (List IV)} {e : List IV} (hk : ∀ e ∈ es, e.length = k) (h : es[i]? = some e) {t : TypeId} : ((Box.mk t (.r es.flatten 0)).cs.drop (i * k)).take k = e.map .iv := by
  rw [Box.cs_r, List.replicate_zero, List.append_nil, ← List.map_drop, ← List.map_take, flat_pick es i e hk h]
set_option maxHeartbeats 4000000 in
theorem bsT_any {gs : Globs} (ts : List Tab) (key : Str) (hne : ts ≠ []) (hl : ts.length ≤ 140737488355328) (hf : Falls (fun s => decide (s < key)) (ts.map Tab.n)) :
    CallG gs Tryd.prog 59 [.bsh 1000 0 ts.length 2, aS key, .fn 60 []] [(1000, ⟨43, .r (ts.map Tab.c).flatten 0⟩)] [(1000, ⟨43, .r (ts.map Tab.c).flatten 0⟩)] [] (.tup [aI (lbM (ts.map Tab.n) key : Int), aB (foundM (ts.map Tab.n) key)]) := by
  refine CallG.intro _ Tryd.func59 rfl Tryd.ntmps59 rfl (fun w0 E0 hG => ?_)
  have hle : lbM (ts.map Tab.n) key ≤ ts.length := by have := pre_le (fun s => decide (s < key)) (ts.map Tab.n); rwa [List.length_map] at this
  have hk : ∀ e ∈ ts.map Tab.c, e.length = 2 := by intro e he; obtain ⟨t, _, rfl⟩ := List.mem_map.1 he; rfl
  (repeat' (first | (refine LW.is ?_; first | refine s_v ?_ | refine s_m ?_ | refine s_nil ?_ | refine s_gd ?_ | (refine s_gsplit rfl rfl rfl (fun hb => ?_) (fun hb => ?_) <;> refine fct hb (fun hp => ?_))) | (refine DR.is ?_; first | refine d_v ?_ | refine d_m ?_ | (apply d_nil; kernel_rfl) | refine d_gd ?_ | (refine d_gsplit rfl rfl rfl (fun hb => ?_) (fun hb => ?_) <;> refine fct hb (fun hp => ?_))) | refine c_go ?_ | refine s_region ?_ | refine d_region ?_ | (refine L.cond rfl (fun hb => ?_) (fun hb => ?_) <;> refine fct hb (fun hp => ?_))))
  refine L.loopP (ι := Nat × Nat) (fun i => ⟨[(9, aI (i.1 : Int)), (10, aI (i.2 : Int)), (8, aI (ts.length : Int)), (0, .bsh 1000 0 ts.length 2), (1, aS key), (2, .fn 60 [])], [(1000, ⟨43, .r (ts.map Tab.c).flatten 0⟩)], []⟩) (fun i => i.2 - i.1) (fun i => i.1 ≤ lbM (ts.map Tab.n) key ∧ lbM (ts.map Tab.n) key ≤ i.2 ∧ i.2 ≤ ts.length) (i0 := (0, ts.length)) ?_ ⟨Nat.zero_le _, hle, Nat.le_refl _⟩ ?_
  · exact (Wk.mk' keys_some (.cons rfl (Sub.refl _) (.cons rfl (Sub.refl _) (.cons rfl (Sub.refl _) (.cons rfl (Sub.refl _) (.cons rfl (Sub.refl _) (.cons rfl (Sub.refl _) .nil)))))) (.cons rfl rfl (Subs.refl _) .nil) .nil)
  rintro ⟨i, j⟩ ⟨h1, h2, h3⟩ K hK
  dsimp only at h1 h2 h3 ⊢
  cases hlt : decide ((i : Int) < (j : Int)) with
  | true =>
    have hij : i < j := by simpa using hlt
    have hh := half i j (by omega)
    have hm : (i + j) / 2 < ts.length := by omega
    obtain ⟨t, ht⟩ : ∃ t, ts[(i + j) / 2]? = some t := ⟨_, List.getElem?_eq_getElem hm⟩
    have hs : (ts.map Tab.n)[(i + j) / 2]? = some t.n := by rw [List.getElem?_map, ht]; rfl
    have g0 : 0 ≤ IntKind.i64.wrap ((IntKind.u64.wrap ((i : Int) + (j : Int))).fdiv (2 ^ min (Int.toNat 1) IntKind.u64.bits)) := by rw [hh]; omega
    have g1 : IntKind.i64.wrap ((IntKind.u64.wrap ((i : Int) + (j : Int))).fdiv (2 ^ min (Int.toNat 1) IntKind.u64.bits)) < (ts.length : Int) := by rw [hh]; omega
    have g4 : (0 + (IntKind.i64.wrap ((IntKind.u64.wrap ((i : Int) + (j : Int))).fdiv (2 ^ min (Int.toNat 1) IntKind.u64.bits))).toNat) * 2 = (i + j) / 2 * 2 := by rw [hh, Int.toNat_natCast, Nat.zero_add]
    have g5 : ((Box.mk 43 (.r (ts.map Tab.c).flatten 0)).cs.drop ((i + j) / 2 * 2)).take 2 = [.iv (S t.n), .iv (.sl (t.cols.map Col.c))] := rowAt hk (by rw [List.getElem?_map, ht]; rfl)
    have g2 : -9223372036854775808 ≤ IntKind.i64.wrap ((IntKind.u64.wrap ((i : Int) + (j : Int))).fdiv (2 ^ min (Int.toNat 1) IntKind.u64.bits)) + 1 := by omega
    have g3 : IntKind.i64.wrap ((IntKind.u64.wrap ((i : Int) + (j : Int))).fdiv (2 ^ min (Int.toNat 1) IntKind.u64.bits)) + 1 ≤ 9223372036854775807 := by rw [hh]; omega
    have kw : CallG gs Tryd.prog 60 ([.agg [.iv (S t.n), .iv (.sl (t.cols.map Col.c))], aS key] ++ []) [] [] [] (aI (Lib.compareBytes t.n key)) := (with1_any t.n key (.sl (t.cols.map Col.c))).toG (gs := gs)
    cases hp : decide (t.n < key) with
    | true =>
      have := hf.le hs (by simpa using hp)
      have hc : decide (Lib.compareBytes t.n key < 0) = true := by rw [cmp_lt]; exact hp
      (repeat' (first | (apply s_callFn (f := 60) (caps := []); exact rfl; exact hG; exact rfl; exact kw; exact rfl; exact .nil; exact rfl; exact rfl) | (refine LW.is ?_; first | (apply s_vr; exact rfl; apply v_addI; exact rfl; exact rfl; exact g2; exact g3) | (apply s_vr; exact rfl; apply v_indexBsh; exact rfl; exact rfl; exact g0; exact g1; exact g4) | (apply s_vr; exact rfl; apply v_loadAP; exact rfl; exact rfl; exact g5; exact rfl) | refine s_v ?_ | refine s_m ?_ | refine s_nil ?_ | refine s_gd ?_ | (refine s_gsplit rfl rfl rfl (fun hb => ?_) (fun hb => ?_) <;> refine fct hb (fun hp => ?_))) | (refine DR.is ?_; first | (apply d_vr; exact rfl; apply v_addI; exact rfl; exact rfl; exact g2; exact g3) | (apply d_vr; exact rfl; apply v_indexBsh; exact rfl; exact rfl; exact g0; exact g1; exact g4) | (apply d_vr; exact rfl; apply v_loadAP; exact rfl; exact rfl; exact g5; exact rfl) | refine d_v ?_ | refine d_m ?_ | (apply d_nil; kernel_rfl) | refine d_gd ?_ | (refine d_gsplit rfl rfl rfl (fun hb => ?_) (fun hb => ?_) <;> refine fct hb (fun hp => ?_))) | refine c_go ?_ | refine s_region ?_ | refine d_region ?_ | (refine L.cond rfl (fun hb => ?_) (fun hb => ?_) <;> refine fct hb (fun hp => ?_))))
      refine hK _ ((i + j) / 2 + 1, j) ⟨by unfold lbM; omega, h2, h3⟩ (by dsimp only; omega) ?_
      refine (Wk.mk' keys_some (.cons rfl (Sub.of_eq (congrArg (fun z => aI z) ?_)) (.cons rfl (Sub.refl _) (.cons rfl (Sub.refl _) (.cons rfl (Sub.refl _) (.cons rfl (Sub.refl _) (.cons rfl (Sub.refl _) .nil)))))) (.cons rfl rfl (Subs.refl _) .nil) .nil)
      rw [hh]; rfl
    | false =>
      have := Falls.ge (p := fun s => decide (s < key)) hs (by simpa using hp)
      have hc : decide (Lib.compareBytes t.n key < 0) = false := by rw [cmp_lt]; exact hp
      (repeat' (first | (apply s_callFn (f := 60) (caps := []); exact rfl; exact hG; exact rfl; exact kw; exact rfl; exact .nil; exact rfl; exact rfl) | (refine LW.is ?_; first | (apply s_vr; exact rfl; apply v_addI; exact rfl; exact rfl; exact g2; exact g3) | (apply s_vr; exact rfl; apply v_indexBsh; exact rfl; exact rfl; exact g0; exact g1; exact g4) | (apply s_vr; exact rfl; apply v_loadAP; exact rfl; exact rfl; exact g5; exact rfl) | refine s_v ?_ | refine s_m ?_ | refine s_nil ?_ | refine s_gd ?_ | (refine s_gsplit rfl rfl rfl (fun hb => ?_) (fun hb => ?_) <;> refine fct hb (fun hp => ?_))) | (refine DR.is ?_; first | (apply d_vr; exact rfl; apply v_addI; exact rfl; exact rfl; exact g2; exact g3) | (apply d_vr; exact rfl; apply v_indexBsh; exact rfl; exact rfl; exact g0; exact g1; exact g4) | (apply d_vr; exact rfl; apply v_loadAP; exact rfl; exact rfl; exact g5; exact rfl) | refine d_v ?_ | refine d_m ?_ | (apply d_nil; kernel_rfl) | refine d_gd ?_ | (refine d_gsplit rfl rfl rfl (fun hb => ?_) (fun hb => ?_) <;> refine fct hb (fun hp => ?_))) | refine c_go ?_ | refine s_region ?_ | refine d_region ?_ | (refine L.cond rfl (fun hb => ?_) (fun hb => ?_) <;> refine fct hb (fun hp => ?_))))
      refine hK _ (i, (i + j) / 2) ⟨h1, by unfold lbM; omega, by dsimp only; omega⟩ (by dsimp only; omega) ?_
      refine (Wk.mk' keys_some (.cons rfl (Sub.refl _) (.cons rfl (Sub.of_eq (congrArg (fun z => aI z) ?_)) (.cons rfl (Sub.refl _) (.cons rfl (Sub.refl _) (.cons rfl (Sub.refl _) (.cons rfl (Sub.refl _) .nil)))))) (.cons rfl rfl (Subs.refl _) .nil) .nil)
      rw [hh]
  | false =>
    have hij : ¬ i < j := by simpa using hlt
    obtain rfl : i = lbM (ts.map Tab.n) key := by omega
    cases ht : ts[lbM (ts.map Tab.n) key]? with
    | none =>
      have hlt2 : decide (((lbM (ts.map Tab.n) key : Nat) : Int) < (ts.length : Int)) = false := by have := List.getElem?_eq_none_iff.1 ht; exact decide_eq_false (by omega)
      have hr : foundM (ts.map Tab.n) key = false := by simp [foundM, ht]
      rw [hr]
      (repeat' (first | (refine LW.is ?_; first | refine s_v ?_ | refine s_m ?_ | refine s_nil ?_ | refine s_gd ?_ | (refine s_gsplit rfl rfl rfl (fun hb => ?_) (fun hb => ?_) <;> refine fct hb (fun hp => ?_))) | (refine DR.is ?_; first | refine d_v ?_ | refine d_m ?_ | (apply d_nil; kernel_rfl) | refine d_gd ?_ | (refine d_gsplit rfl rfl rfl (fun hb => ?_) (fun hb => ?_) <;> refine fct hb (fun hp => ?_))) | refine c_go ?_ | refine s_region ?_ | refine d_region ?_ | (refine L.cond rfl (fun hb => ?_) (fun hb => ?_) <;> refine fct hb (fun hp => ?_))))
      all_goals (apply L.ends; exact rfl; exact rfl; exact Sub.refl _; exact Wk.mk' keys_some .nil (.cons rfl rfl (Subs.refl _) .nil) .nil)
    | some t =>
      have hlt3 := (List.getElem?_eq_some_iff.1 ht).1
      have hlt2 : decide (((lbM (ts.map Tab.n) key : Nat) : Int) < (ts.length : Int)) = true := decide_eq_true (by omega)
      have hs : (ts.map Tab.n)[lbM (ts.map Tab.n) key]? = some t.n := by rw [List.getElem?_map, ht]; rfl
      have g0 : 0 ≤ ((lbM (ts.map Tab.n) key : Nat) : Int) := by omega
      have g1 : ((lbM (ts.map Tab.n) key : Nat) : Int) < (ts.length : Int) := by omega
      have g4 : (0 + (((lbM (ts.map Tab.n) key : Nat) : Int)).toNat) * 2 = lbM (ts.map Tab.n) key * 2 := by rw [Int.toNat_natCast, Nat.zero_add]
      have g5 : ((Box.mk 43 (.r (ts.map Tab.c).flatten 0)).cs.drop (lbM (ts.map Tab.n) key * 2)).take 2 = [.iv (S t.n), .iv (.sl (t.cols.map Col.c))] := rowAt hk (by rw [List.getElem?_map, ht]; rfl)
      have kw : CallG gs Tryd.prog 60 ([.agg [.iv (S t.n), .iv (.sl (t.cols.map Col.c))], aS key] ++ []) [] [] [] (aI (Lib.compareBytes t.n key)) := (with1_any t.n key (.sl (t.cols.map Col.c))).toG (gs := gs)
      have hr : foundM (ts.map Tab.n) key = (Lib.compareBytes t.n key == 0) := by rw [foundM, hs, cmp_eq]; rfl
      rw [hr]
      (repeat' (first | (apply s_callFn (f := 60) (caps := []); exact rfl; exact hG; exact rfl; exact kw; exact rfl; exact .nil; exact rfl; exact rfl) | (refine LW.is ?_; first | (apply s_vr; exact rfl; apply v_indexBsh; exact rfl; exact rfl; exact g0; exact g1; exact g4) | (apply s_vr; exact rfl; apply v_loadAP; exact rfl; exact rfl; exact g5; exact rfl) | refine s_v ?_ | refine s_m ?_ | refine s_nil ?_ | refine s_gd ?_ | (refine s_gsplit rfl rfl rfl (fun hb => ?_) (fun hb => ?_) <;> refine fct hb (fun hp => ?_))) | (refine DR.is ?_; first | (apply d_vr; exact rfl; apply v_indexBsh; exact rfl; exact rfl; exact g0; exact g1; exact g4) | (apply d_vr; exact rfl; apply v_loadAP; exact rfl; exact rfl; exact g5; exact rfl) | refine d_v ?_ | refine d_m ?_ | (apply d_nil; kernel_rfl) | refine d_gd ?_ | (refine d_gsplit rfl rfl rfl (fun hb => ?_) (fun hb => ?_) <;> refine fct hb (fun hp => ?_))) | refine c_go ?_ | refine s_region ?_ | refine d_region ?_ | (refine L.cond rfl (fun hb => ?_) (fun hb => ?_) <;> refine fct hb (fun hp => ?_))))
      all_goals (apply L.ends; exact rfl; exact rfl; exact Sub.refl _; exact Wk.mk' keys_some .nil (.cons rfl rfl (Subs.refl _) .nil) .nil)
set_option maxHeartbeats 4000000 in
theorem bsT_emp {gs : Globs} (key : Str) :
    CallG gs Tryd.prog 59 [.iv (.sl []), aS key, .fn 60 []] [] [] [] (.tup [aI 0, aB false]) := by
  refine CallG.intro _ Tryd.func59 rfl Tryd.ntmps59 rfl (fun w0 E0 hG => ?_)
  (repeat' (first | (refine LW.is ?_; first | refine s_v ?_ | refine s_m ?_ | refine s_nil ?_ | refine s_gd ?_ | (refine s_gsplit rfl rfl rfl (fun hb => ?_) (fun hb => ?_) <;> refine fct hb (fun hp => ?_))) | (refine DR.is ?_; first | refine d_v ?_ | refine d_m ?_ | (apply d_nil; kernel_rfl) | refine d_gd ?_ | (refine d_gsplit rfl rfl rfl (fun hb => ?_) (fun hb => ?_) <;> refine fct hb (fun hp => ?_))) | refine c_go ?_ | refine s_region ?_ | refine d_region ?_ | (refine L.cond rfl (fun hb => ?_) (fun hb => ?_) <;> refine fct hb (fun hp => ?_))))
  refine L.loopP (ι := Nat) (fun i => ⟨[(9, aI 0), (10, aI 0), (8, aI 0), (0, .iv (.sl [])), (1, aS key), (2, .fn 60 [])], [], []⟩) (fun i => i) (fun i => True) (i0 := 0) ?_ trivial ?_
  · (refine Wk.mk' (by intro id h; cases h) ?_ ?_ ?_ <;> repeat' (first | exact WkF.nil | exact WkB.nil | exact WkT.nil | (refine WkF.cons rfl (Sub.refl _) ?_) | (refine WkB.cons rfl rfl (Subs.refl _) ?_) | (refine WkT.cons rfl ?_)))
  intro i _ K hK
  (repeat' (first | (refine LW.is ?_; first | refine s_v ?_ | refine s_m ?_ | refine s_nil ?_ | refine s_gd ?_ | (refine s_gsplit rfl rfl rfl (fun hb => ?_) (fun hb => ?_) <;> refine fct hb (fun hp => ?_))) | (refine DR.is ?_; first | refine d_v ?_ | refine d_m ?_ | (apply d_nil; kernel_rfl) | refine d_gd ?_ | (refine d_gsplit rfl rfl rfl (fun hb => ?_) (fun hb => ?_) <;> refine fct hb (fun hp => ?_))) | refine c_go ?_ | refine s_region ?_ | refine d_region ?_ | (refine L.cond rfl (fun hb => ?_) (fun hb => ?_) <;> refine fct hb (fun hp => ?_))))
  all_goals (first | (apply L.ends1; exact rfl; exact rfl; exact rfl) | (apply L.ends2; exact rfl; exact rfl; exact rfl) | (apply L.ends3; exact rfl; exact rfl; exact rfl) | (apply L.ends1A; exact rfl; exact rfl; exact rfl) | (apply L.ends2A; exact rfl; exact rfl; exact rfl) | (apply L.ends3A; exact rfl; exact rfl; exact rfl))
  all_goals rfl
set_option maxHeartbeats 4000000 in
theorem bsX_any {gs : Globs} (ts : List Idx) (key : Str) (hne : ts ≠ []) (hl : ts.length ≤ 140737488355328) (hf : Falls (fun s => decide (s < key)) (ts.map Idx.n)) :
    CallG gs Tryd.prog 63 [.bsh 1000 0 ts.length 3, aS key, .fn 64 []] [(1000, ⟨81, .r (ts.map Idx.c).flatten 0⟩)] [(1000, ⟨81, .r (ts.map Idx.c).flatten 0⟩)] [] (.tup [aI (lbM (ts.map Idx.n) key : Int), aB (foundM (ts.map Idx.n) key)]) := by
  refine CallG.intro _ Tryd.func63 rfl Tryd.ntmps63 rfl (fun w0 E0 hG => ?_)
  have hle : lbM (ts.map Idx.n) key ≤ ts.length := by have := pre_le (fun s => decide (s < key)) (ts.map Idx.n); rwa [List.length_map] at this
  have hk : ∀ e ∈ ts.map Idx.c, e.length = 3 := by intro e he; obtain ⟨t, _, rfl⟩ := List.mem_map.1 he; rfl
  (repeat' (first | (refine LW.is ?_; first | refine s_v ?_ | refine s_m ?_ | refine s_nil ?_ | refine s_gd ?_ | (refine s_gsplit rfl rfl rfl (fun hb => ?_) (fun hb => ?_) <;> refine fct hb (fun hp => ?_))) | (refine DR.is ?_; first | refine d_v ?_ | refine d_m ?_ | (apply d_nil; kernel_rfl) | refine d_gd ?_ | (refine d_gsplit rfl rfl rfl (fun hb => ?_) (fun hb => ?_) <;> refine fct hb (fun hp => ?_))) | refine c_go ?_ | refine s_region ?_ | refine d_region ?_ | (refine L.cond rfl (fun hb => ?_) (fun hb => ?_) <;> refine fct hb (fun hp => ?_))))
  refine L.loopP (ι := Nat × Nat) (fun i => ⟨[(9, aI (i.1 : Int)), (10, aI (i.2 : Int)), (8, aI (ts.length : Int)), (0, .bsh 1000 0 ts.length 3), (1, aS key), (2, .fn 64 [])], [(1000, ⟨81, .r (ts.map Idx.c).flatten 0⟩)], []⟩) (fun i => i.2 - i.1) (fun i => i.1 ≤ lbM (ts.map Idx.n) key ∧ lbM (ts.map Idx.n) key ≤ i.2 ∧ i.2 ≤ ts.length) (i0 := (0, ts.length)) ?_ ⟨Nat.zero_le _, hle, Nat.le_refl _⟩ ?_
  · exact (Wk.mk' keys_some (.cons rfl (Sub.refl _) (.cons rfl (Sub.refl _) (.cons rfl (Sub.refl _) (.cons rfl (Sub.refl _) (.cons rfl (Sub.refl _) (.cons rfl (Sub.refl _) .nil)))))) (.cons rfl rfl (Subs.refl _) .nil) .nil)
  rintro ⟨i, j⟩ ⟨h1, h2, h3⟩ K hK
  dsimp only at h1 h2 h3 ⊢
  cases hlt : decide ((i : Int) < (j : Int)) with
  | true =>
    have hij : i < j := by simpa using hlt
    have hh := half i j (by omega)
    have hm : (i + j) / 2 < ts.length := by omega
    obtain ⟨t, ht⟩ : ∃ t, ts[(i + j) / 2]? = some t := ⟨_, List.getElem?_eq_getElem hm⟩
    have hs : (ts.map Idx.n)[(i + j) / 2]? = some t.n := by rw [List.getElem?_map, ht]; rfl
    have g0 : 0 ≤ IntKind.i64.wrap ((IntKind.u64.wrap ((i : Int) + (j : Int))).fdiv (2 ^ min (Int.toNat 1) IntKind.u64.bits)) := by rw [hh]; omega
    have g1 : IntKind.i64.wrap ((IntKind.u64.wrap ((i : Int) + (j : Int))).fdiv (2 ^ min (Int.toNat 1) IntKind.u64.bits)) < (ts.length : Int) := by rw [hh]; omega
    have g4 : (0 + (IntKind.i64.wrap ((IntKind.u64.wrap ((i : Int) + (j : Int))).fdiv (2 ^ min (Int.toNat 1) IntKind.u64.bits))).toNat) * 3 = (i + j) / 2 * 3 := by rw [hh, Int.toNat_natCast, Nat.zero_add]
    have g5 : ((Box.mk 81 (.r (ts.map Idx.c).flatten 0)).cs.drop ((i + j) / 2 * 3)).take 3 = [.iv (S t.n), .iv (S t.tb), .iv (S t.co)] := rowAt hk (by rw [List.getElem?_map, ht]; rfl)
    have g2 : -9223372036854775808 ≤ IntKind.i64.wrap ((IntKind.u64.wrap ((i : Int) + (j : Int))).fdiv (2 ^ min (Int.toNat 1) IntKind.u64.bits)) + 1 := by omega
    have g3 : IntKind.i64.wrap ((IntKind.u64.wrap ((i : Int) + (j : Int))).fdiv (2 ^ min (Int.toNat 1) IntKind.u64.bits)) + 1 ≤ 9223372036854775807 := by rw [hh]; omega
    have kw : CallG gs Tryd.prog 64 ([.agg [.iv (S t.n), .iv (S t.tb), .iv (S t.co)], aS key] ++ []) [] [] [] (aI (Lib.compareBytes t.n key)) := (with2_any t.n key (S t.tb) (S t.co)).toG (gs := gs)
    cases hp : decide (t.n < key) with
    | true =>
      have := hf.le hs (by simpa using hp)
      have hc : decide (Lib.compareBytes t.n key < 0) = true := by rw [cmp_lt]; exact hp
      (repeat' (first | (apply s_callFn (f := 64) (caps := []); exact rfl; exact hG; exact rfl; exact kw; exact rfl; exact .nil; exact rfl; exact rfl) | (refine LW.is ?_; first | (apply s_vr; exact rfl; apply v_addI; exact rfl; exact rfl; exact g2; exact g3) | (apply s_vr; exact rfl; apply v_indexBsh; exact rfl; exact rfl; exact g0; exact g1; exact g4) | (apply s_vr; exact rfl; apply v_loadAP; exact rfl; exact rfl; exact g5; exact rfl) | refine s_v ?_ | refine s_m ?_ | refine s_nil ?_ | refine s_gd ?_ | (refine s_gsplit rfl rfl rfl (fun hb => ?_) (fun hb => ?_) <;> refine fct hb (fun hp => ?_))) | (refine DR.is ?_; first | (apply d_vr; exact rfl; apply v_addI; exact rfl; exact rfl; exact g2; exact g3) | (apply d_vr; exact rfl; apply v_indexBsh; exact rfl; exact rfl; exact g0; exact g1; exact g4) | (apply d_vr; exact rfl; apply v_loadAP; exact rfl; exact rfl; exact g5; exact rfl) | refine d_v ?_ | refine d_m ?_ | (apply d_nil; kernel_rfl) | refine d_gd ?_ | (refine d_gsplit rfl rfl rfl (fun hb => ?_) (fun hb => ?_) <;> refine fct hb (fun hp => ?_))) | refine c_go ?_ | refine s_region ?_ | refine d_region ?_ | (refine L.cond rfl (fun hb => ?_) (fun hb => ?_) <;> refine fct hb (fun hp => ?_))))
      refine hK _ ((i + j) / 2 + 1, j) ⟨by unfold lbM; omega, h2, h3⟩ (by dsimp only; omega) ?_
      refine (Wk.mk' keys_some (.cons rfl (Sub.of_eq (congrArg (fun z => aI z) ?_)) (.cons rfl (Sub.refl _) (.cons rfl (Sub.refl _) (.cons rfl (Sub.refl _) (.cons rfl (Sub.refl _) (.cons rfl (Sub.refl _) .nil)))))) (.cons rfl rfl (Subs.refl _) .nil) .nil)
      rw [hh]; rfl
    | false =>
      have := Falls.ge (p := fun s => decide (s < key)) hs (by simpa using hp)
      have hc : decide (Lib.compareBytes t.n key < 0) = false := by rw [cmp_lt]; exact hp
      (repeat' (first | (apply s_callFn (f := 64) (caps := []); exact rfl; exact hG; exact rfl; exact kw; exact rfl; exact .nil; exact rfl; exact rfl) | (refine LW.is ?_; first | (apply s_vr; exact rfl; apply v_addI; exact rfl; exact rfl; exact g2; exact g3) | (apply s_vr; exact rfl; apply v_indexBsh; exact rfl; exact rfl; exact g0; exact g1; exact g4) | (apply s_vr; exact rfl; apply v_loadAP; exact rfl; exact rfl; exact g5; exact rfl) | refine s_v ?_ | refine s_m ?_ | refine s_nil ?_ | refine s_gd ?_ | (refine s_gsplit rfl rfl rfl (fun hb => ?_) (fun hb => ?_) <;> refine fct hb (fun hp => ?_))) | (refine DR.is ?_; first | (apply d_vr; exact rfl; apply v_addI; exact rfl; exact rfl; exact g2; exact g3) | (apply d_vr; exact rfl; apply v_indexBsh; exact rfl; exact rfl; exact g0; exact g1; exact g4) | (apply d_vr; exact rfl; apply v_loadAP; exact rfl; exact rfl; exact g5; exact rfl) | refine d_v ?_ | refine d_m ?_ | (apply d_nil; kernel_rfl) | refine d_gd ?_ | (refine d_gsplit rfl rfl rfl (fun hb => ?_) (fun hb => ?_) <;> refine fct hb (fun hp => ?_))) | refine c_go ?_ | refine s_region ?_ | refine d_region ?_ | (refine L.cond rfl (fun hb => ?_) (fun hb => ?_) <;> refine fct hb (fun hp => ?_))))
      refine hK _ (i, (i + j) / 2) ⟨h1, by unfold lbM; omega, by dsimp only; omega⟩ (by dsimp only; omega) ?_
      refine (Wk.mk' keys_some (.cons rfl (Sub.refl _) (.cons rfl (Sub.of_eq (congrArg (fun z => aI z) ?_)) (.cons rfl (Sub.refl _) (.cons rfl (Sub.refl _) (.cons rfl (Sub.refl _) (.cons rfl (Sub.refl _) .nil)))))) (.cons rfl rfl (Subs.refl _) .nil) .nil)
      rw [hh]
  | false =>
    have hij : ¬ i < j := by simpa using hlt
    obtain rfl : i = lbM (ts.map Idx.n) key := by omega
    cases ht : ts[lbM (ts.map Idx.n) key]? with
    | none =>
      have hlt2 : decide (((lbM (ts.map Idx.n) key : Nat) : Int) < (ts.length : Int)) = false := by have := List.getElem?_eq_none_iff.1 ht; exact decide_eq_false (by omega)
      have hr : foundM (ts.map Idx.n) key = false := by simp [foundM, ht]
      rw [hr]
      (repeat' (first | (refine LW.is ?_; first | refine s_v ?_ | refine s_m ?_ | refine s_nil ?_ | refine s_gd ?_ | (refine s_gsplit rfl rfl rfl (fun hb => ?_) (fun hb => ?_) <;> refine fct hb (fun hp => ?_))) | (refine DR.is ?_; first | refine d_v ?_ | refine d_m ?_ | (apply d_nil; kernel_rfl) | refine d_gd ?_ | (refine d_gsplit rfl rfl rfl (fun hb => ?_) (fun hb => ?_) <;> refine fct hb (fun hp => ?_))) | refine c_go ?_ | refine s_region ?_ | refine d_region ?_ | (refine L.cond rfl (fun hb => ?_) (fun hb => ?_) <;> refine fct hb (fun hp => ?_))))
      all_goals (apply L.ends; exact rfl; exact rfl; exact Sub.refl _; exact Wk.mk' keys_some .nil (.cons rfl rfl (Subs.refl _) .nil) .nil)
    | some t =>
      have hlt3 := (List.getElem?_eq_some_iff.1 ht).1
      have hlt2 : decide (((lbM (ts.map Idx.n) key : Nat) : Int) < (ts.length : Int)) = true := decide_eq_true (by omega)
      have hs : (ts.map Idx.n)[lbM (ts.map Idx.n) key]? = some t.n := by rw [List.getElem?_map, ht]; rfl
      have g0 : 0 ≤ ((lbM (ts.map Idx.n) key : Nat) : Int) := by omega
      have g1 : ((lbM (ts.map Idx.n) key : Nat) : Int) < (ts.length : Int) := by omega
      have g4 : (0 + (((lbM (ts.map Idx.n) key : Nat) : Int)).toNat) * 3 = lbM (ts.map Idx.n) key * 3 := by rw [Int.toNat_natCast, Nat.zero_add]
      have g5 : ((Box.mk 81 (.r (ts.map Idx.c).flatten 0)).cs.drop (lbM (ts.map Idx.n) key * 3)).take 3 = [.iv (S t.n), .iv (S t.tb), .iv (S t.co)] := rowAt hk (by rw [List.getElem?_map, ht]; rfl)
      have kw : CallG gs Tryd.prog 64 ([.agg [.iv (S t.n), .iv (S t.tb), .iv (S t.co)], aS key] ++ []) [] [] [] (aI (Lib.compareBytes t.n key)) := (with2_any t.n key (S t.tb) (S t.co)).toG (gs := gs)
      have hr : foundM (ts.map Idx.n) key = (Lib.compareBytes t.n key == 0) := by rw [foundM, hs, cmp_eq]; rfl
      rw [hr]
      (repeat' (first | (apply s_callFn (f := 64) (caps := []); exact rfl; exact hG; exact rfl; exact kw; exact rfl; exact .nil; exact rfl; exact rfl) | (refine LW.is ?_; first | (apply s_vr; exact rfl; apply v_indexBsh; exact rfl; exact rfl; exact g0; exact g1; exact g4) | (apply s_vr; exact rfl; apply v_loadAP; exact rfl; exact rfl; exact g5; exact rfl) | refine s_v ?_ | refine s_m ?_ | refine s_nil ?_ | refine s_gd ?_ | (refine s_gsplit rfl rfl rfl (fun hb => ?_) (fun hb => ?_) <;> refine fct hb (fun hp => ?_))) | (refine DR.is ?_; first | (apply d_vr; exact rfl; apply v_indexBsh; exact rfl; exact rfl; exact g0; exact g1; exact g4) | (apply d_vr; exact rfl; apply v_loadAP; exact rfl; exact rfl; exact g5; exact rfl) | refine d_v ?_ | refine d_m ?_ | (apply d_nil; kernel_rfl) | refine d_gd ?_ | (refine d_gsplit rfl rfl rfl (fun hb => ?_) (fun hb => ?_) <;> refine fct hb (fun hp => ?_))) | refine c_go ?_ | refine s_region ?_ | refine d_region ?_ | (refine L.cond rfl (fun hb => ?_) (fun hb => ?_) <;> refine fct hb (fun hp => ?_))))
      all_goals (apply L.ends; exact rfl; exact rfl; exact Sub.refl _; exact Wk.mk' keys_some .nil (.cons rfl rfl (Subs.refl _) .nil) .nil)
set_option maxHeartbeats 4000000 in
theorem bsX_emp {gs : Globs} (key : Str) :
    CallG gs Tryd.prog 63 [.iv (.sl []), aS key, .fn 64 []] [] [] [] (.tup [aI 0, aB false]) := by
  refine CallG.intro _ Tryd.func63 rfl Tryd.ntmps63 rfl (fun w0 E0 hG => ?_)
  (repeat' (first | (refine LW.is ?_; first | refine s_v ?_ | refine s_m ?_ | refine s_nil ?_ | refine s_gd ?_ | (refine s_gsplit rfl rfl rfl (fun hb => ?_) (fun hb => ?_) <;> refine fct hb (fun hp => ?_))) | (refine DR.is ?_; first | refine d_v ?_ | refine d_m ?_ | (apply d_nil; kernel_rfl) | refine d_gd ?_ | (refine d_gsplit rfl rfl rfl (fun hb => ?_) (fun hb => ?_) <;> refine fct hb (fun hp => ?_))) | refine c_go ?_ | refine s_region ?_ | refine d_region ?_ | (refine L.cond rfl (fun hb => ?_) (fun hb => ?_) <;> refine fct hb (fun hp => ?_))))
  refine L.loopP (ι := Nat) (fun i => ⟨[(9, aI 0), (10, aI 0), (8, aI 0), (0, .iv (.sl [])), (1, aS key), (2, .fn 64 [])], [], []⟩) (fun i => i) (fun i => True) (i0 := 0) ?_ trivial ?_
  · (refine Wk.mk' (by intro id h; cases h) ?_ ?_ ?_ <;> repeat' (first | exact WkF.nil | exact WkB.nil | exact WkT.nil | (refine WkF.cons rfl (Sub.refl _) ?_) | (refine WkB.cons rfl rfl (Subs.refl _) ?_) | (refine WkT.cons rfl ?_)))
  intro i _ K hK
  (repeat' (first | (refine LW.is ?_; first | refine s_v ?_ | refine s_m ?_ | refine s_nil ?_ | refine s_gd ?_ | (refine s_gsplit rfl rfl rfl (fun hb => ?_) (fun hb => ?_) <;> refine fct hb (fun hp => ?_))) | (refine DR.is ?_; first | refine d_v ?_ | refine d_m ?_ | (apply d_nil; kernel_rfl) | refine d_gd ?_ | (refine d_gsplit rfl rfl rfl (fun hb => ?_) (fun hb => ?_) <;> refine fct hb (fun hp => ?_))) | refine c_go ?_ | refine s_region ?_ | refine d_region ?_ | (refine L.cond rfl (fun hb => ?_) (fun hb => ?_) <;> refine fct hb (fun hp => ?_))))
  all_goals (first | (apply L.ends1; exact rfl; exact rfl; exact rfl) | (apply L.ends2; exact rfl; exact rfl; exact rfl) | (apply L.ends3; exact rfl; exact rfl; exact rfl) | (apply L.ends1A; exact rfl; exact rfl; exact rfl) | (apply L.ends2A; exact rfl; exact rfl; exact rfl) | (apply L.ends3A; exact rfl; exact rfl; exact rfl))
  all_goals rfl
end Go.Proofs.YthkobnpogigkiaaDoor
/- Tables and indexes: what IndexFunc and DeleteFunc compute over a row of one's own. Conditions: how much there is of what comes in. -/
namespace Go.Abs
set_option linter.unusedVariables false
section
variable {P : Program} {c : Ctx} {st : St} {ops : Array Oper} {Q : Exit → Act → World → Prop} {rest : List Oper} {o : Oper}
theorem L.callXG {gs : Globs} {f : FuncId} {args : Array Operand} {ats : Array TypeId} {avs : List AV} {bxi : List (Nat × Box)} {res : AV} {d : Nat} (hg : o.guard = none) (hd : o.dst = some d) (hlt : Nat.ble (d + 1) c.nt = true) (hG : Glob gs c.E0 c.w0)
    (ho : o.op = .call { callee := .value (.func f), args := args, argTypes := ats }) (hok : callOk P f = true) (hc : CallG gs P f avs bxi bxi [] res) (ha : Subs (args.toList.map st.ev) avs)
    (hbi : WkB st.bx bxi) (hmb : bxi.all (fun p => !p.2.cs.isEmpty && AV.mentsIn (keys bxi) p.2.cs) = true) (hmr : AV.mentIn (keys bxi) res = true)
    (h : L c ⟨(d, res) :: st.fr, bxi ++ st.bx, st.tk⟩ (wpList P ops Q rest)) : L c st (wpList P ops Q (o :: rest)) :=
  L.enterG [] hg hd hlt hG (fun E a w hi => by
    refine ⟨args.toList.map a.eval, ?_, (hi.evs args).sub ha⟩
    have hargs : (args.toList.map a.eval).toArray = args.map a.eval := by apply Array.ext'; simp
    rw [hargs]
    simp [execOp, ho, resolve, Act.eval, Deferred.ofValue, invoke, run_callOk hok]) hc hbi rfl (by
      simp only [boOk, Bool.and_eq_true, List.all_eq_true] at hmb ⊢
      exact ⟨fun p hp => (hmb p hp).1, fun id hid => by simpa using hid⟩) rfl (by
      simp only [Bool.and_eq_true, List.all_eq_true] at hmb ⊢
      exact fun p hp => (hmb p hp).2) hmr h
theorem s_callX {fr : List (Nat × AV)} {bx : List (Nat × Box)} {tk : List (Nat × Tok)} {d : Nat} {ty : TypeId} {pos : String} {aft : Array Edge} {gs : Globs} {f : FuncId} {args : Array Operand} {ats : Array TypeId} {avs : List AV} {bxi : List (Nat × Box)} {res : AV} (hlt : Nat.ble (d + 1) c.nt = true) (hG : Glob gs c.E0 c.w0) [hok : CallTy P f]
    (hc : CallG gs P f avs bxi bxi [] res) (ha : AV.pub.pubs (args.toList.map (St.ev ⟨fr, bx, tk⟩)) = avs) (hbi : WkB bx bxi) (hmb : bxi.all (fun p => !p.2.cs.isEmpty && AV.mentsIn (keys bxi) p.2.cs) = true) (hmr : AV.mentIn (keys bxi) res = true)
    (h : LW P c ⟨(d, res) :: fr, bxi ++ bx, tk⟩ ops Q rest) :
    LW P c ⟨fr, bx, tk⟩ ops Q (⟨some d, .call { callee := .value (.func f), args := args, argTypes := ats }, ty, pos, aft, none⟩ :: rest) :=
  .mk (L.callXG (st := ⟨fr, bx, tk⟩) rfl rfl hlt hG rfl hok.h hc (.of_pub ha) hbi hmb hmr (LW.out h))
end
end Go.Abs
namespace Go.Proofs.YthkobnpogigkiaaDoor
open Go.Abs
set_option maxRecDepth 100000
attribute [local irreducible] L Code.wp bodyPost Exit.then Exit.inBlock
set_option linter.unusedVariables false
set_option linter.unusedSimpArgs false
theorem with3_any (s : Stm) (a : Str) (x : IV) : CallA Tryd.prog 67 [.agg [.iv (S a), .iv x], .ptr 1000 0] [(1000, ⟨36, .l (s.cs.map .iv)⟩)] [(1000, ⟨36, .l (s.cs.map .iv)⟩)] [] (aB (a == s.name)) := by
  refine CallA.intro _ Tryd.func67 rfl Tryd.ntmps67 rfl (fun w0 E0 => ?_)
  (repeat' (first | (refine LW.is ?_; first | refine s_v ?_ | refine s_m ?_ | refine s_nil ?_ | refine s_gd ?_ | (refine s_gsplit rfl rfl rfl (fun hb => ?_) (fun hb => ?_) <;> refine fct hb (fun hp => ?_))) | (refine DR.is ?_; first | refine d_v ?_ | refine d_m ?_ | (apply d_nil; kernel_rfl) | refine d_gd ?_ | (refine d_gsplit rfl rfl rfl (fun hb => ?_) (fun hb => ?_) <;> refine fct hb (fun hp => ?_))) | refine c_go ?_ | refine s_region ?_ | refine d_region ?_ | (refine L.cond rfl (fun hb => ?_) (fun hb => ?_) <;> refine fct hb (fun hp => ?_))))
  all_goals (apply L.ends; exact rfl; exact rfl; exact Sub.refl _; exact Wk.mk' keys_some .nil (.cons rfl rfl (Subs.refl _) .nil) .nil)
theorem with4_any (s : Stm) (a b : Str) (x : IV) : CallA Tryd.prog 69 [.agg [.iv (S a), .iv (S b), .iv x], .ptr 1000 0] [(1000, ⟨36, .l (s.cs.map .iv)⟩)] [(1000, ⟨36, .l (s.cs.map .iv)⟩)] [] (aB (b == s.name)) := by
  refine CallA.intro _ Tryd.func69 rfl Tryd.ntmps69 rfl (fun w0 E0 => ?_)
  (repeat' (first | (refine LW.is ?_; first | refine s_v ?_ | refine s_m ?_ | refine s_nil ?_ | refine s_gd ?_ | (refine s_gsplit rfl rfl rfl (fun hb => ?_) (fun hb => ?_) <;> refine fct hb (fun hp => ?_))) | (refine DR.is ?_; first | refine d_v ?_ | refine d_m ?_ | (apply d_nil; kernel_rfl) | refine d_gd ?_ | (refine d_gsplit rfl rfl rfl (fun hb => ?_) (fun hb => ?_) <;> refine fct hb (fun hp => ?_))) | refine c_go ?_ | refine s_region ?_ | refine d_region ?_ | (refine L.cond rfl (fun hb => ?_) (fun hb => ?_) <;> refine fct hb (fun hp => ?_))))
  all_goals (apply L.ends; exact rfl; exact rfl; exact Sub.refl _; exact Wk.mk' keys_some .nil (.cons rfl rfl (Subs.refl _) .nil) .nil)
set_option maxHeartbeats 4000000 in
theorem ixT_any {gs : Globs} {f : FuncId} {b : Box} [CallTy Tryd.prog f] (p : Tab → Bool) (l : List Tab) (hne : l ≠ []) (hl : l.length ≤ 140737488355328) (hmb : [(1001, b)].all (fun p => !p.2.cs.isEmpty && AV.mentsIn (keys [(1001, b)]) p.2.cs) = true)
    (hc : ∀ y ∈ l, CallG gs Tryd.prog f ([.agg (y.c.map .iv)] ++ [.ptr 1001 0]) [(1001, b)] [(1001, b)] [] (aB (p y))) :
    CallG gs Tryd.prog 103 [.bsh 1000 0 l.length 2, .fn f [.ptr 1001 0]] [(1000, ⟨43, .r (l.map Tab.c).flatten 0⟩), (1001, b)] [(1000, ⟨43, .r (l.map Tab.c).flatten 0⟩), (1001, b)] [] (aI (idxM p l)) := by
  refine CallG.intro _ Tryd.func103 rfl Tryd.ntmps103 rfl (fun w0 E0 hG => ?_)
  have hk : ∀ e ∈ l.map Tab.c, e.length = 2 := by intro e he; obtain ⟨t, _, rfl⟩ := List.mem_map.1 he; rfl
  (repeat' (first | (refine LW.is ?_; first | refine s_v ?_ | refine s_m ?_ | refine s_nil ?_ | refine s_gd ?_ | (refine s_gsplit rfl rfl rfl (fun hb => ?_) (fun hb => ?_) <;> refine fct hb (fun hp => ?_))) | (refine DR.is ?_; first | refine d_v ?_ | refine d_m ?_ | (apply d_nil; kernel_rfl) | refine d_gd ?_ | (refine d_gsplit rfl rfl rfl (fun hb => ?_) (fun hb => ?_) <;> refine fct hb (fun hp => ?_))) | refine c_go ?_ | refine s_region ?_ | refine d_region ?_ | (refine L.cond rfl (fun hb => ?_) (fun hb => ?_) <;> refine fct hb (fun hp => ?_))))
  refine L.loopP (ι := Nat) (fun i => ⟨[(8, aI (i : Int)), (7, aI (l.length : Int)), (0, .bsh 1000 0 l.length 2), (1, .fn f [.ptr 1001 0])], [(1000, ⟨43, .r (l.map Tab.c).flatten 0⟩), (1001, b)], []⟩) (fun i => l.length - i) (fun i => ∀ y ∈ l.take i, p y = false) (i0 := 0) ?_ (by simp) ?_
  · exact Wk.mkX keys_some (.cons rfl (Sub.refl _) (.cons rfl (Sub.refl _) (.cons rfl (Sub.refl _) (.cons rfl (Sub.refl _) .nil)))) (fun s v h => h) .nil
  intro i hI K hK
  cases hx : l[i]? with
  | none =>
    have hlt : decide ((i : Int) < (l.length : Int)) = false := by have := List.getElem?_eq_none_iff.1 hx; exact decide_eq_false (by omega)
    rw [idx_no (take_full hI hx)]
    (repeat' (first | (refine LW.is ?_; first | refine s_v ?_ | refine s_m ?_ | refine s_nil ?_ | refine s_gd ?_ | (refine s_gsplit rfl rfl rfl (fun hb => ?_) (fun hb => ?_) <;> refine fct hb (fun hp => ?_))) | (refine DR.is ?_; first | refine d_v ?_ | refine d_m ?_ | (apply d_nil; kernel_rfl) | refine d_gd ?_ | (refine d_gsplit rfl rfl rfl (fun hb => ?_) (fun hb => ?_) <;> refine fct hb (fun hp => ?_))) | refine c_go ?_ | refine s_region ?_ | refine d_region ?_ | (refine L.cond rfl (fun hb => ?_) (fun hb => ?_) <;> refine fct hb (fun hp => ?_))))
    apply L.ends; exact rfl; exact rfl; exact Sub.refl _
    exact Wk.mkX keys_some .nil (fun s v h => h) .nil
  | some y =>
    have hlt' := (List.getElem?_eq_some_iff.1 hx).1
    have hlt : decide ((i : Int) < (l.length : Int)) = true := decide_eq_true (by omega)
    have hcz := hc y (List.mem_of_getElem? hx)
    have g1 : ((i : Nat) : Int) < (l.length : Int) := by omega
    have g4 : (0 + ((i : Nat) : Int).toNat) * 2 = i * 2 := by rw [Int.toNat_natCast, Nat.zero_add]
    have g5 : ((Box.mk 43 (.r (l.map Tab.c).flatten 0)).cs.drop (i * 2)).take 2 = y.c.map .iv := rowAt hk (by rw [List.getElem?_map, hx]; rfl)
    cases hq : p y with
    | true =>
      rw [hq] at hcz
      rw [idx_at hI hx hq]
      (repeat' (first | (apply s_callFn (f := f) (bxi := [(1001, b)]); exact rfl; exact hG; exact rfl; exact hcz; exact rfl; exact .cons rfl rfl (Subs.refl _) .nil; exact hmb; exact rfl) | (refine LW.is ?_; first | (apply s_vr; exact rfl; apply v_indexBsh; exact rfl; exact rfl; omega; exact g1; exact g4) | (apply s_vr; exact rfl; apply v_loadAP; exact rfl; exact rfl; exact g5; exact rfl) | refine s_v ?_ | refine s_m ?_ | refine s_nil ?_ | refine s_gd ?_ | (refine s_gsplit rfl rfl rfl (fun hb => ?_) (fun hb => ?_) <;> refine fct hb (fun hp => ?_))) | (refine DR.is ?_; first | (apply d_vr; exact rfl; apply v_indexBsh; exact rfl; exact rfl; omega; exact g1; exact g4) | (apply d_vr; exact rfl; apply v_loadAP; exact rfl; exact rfl; exact g5; exact rfl) | refine d_v ?_ | refine d_m ?_ | (apply d_nil; kernel_rfl) | refine d_gd ?_ | (refine d_gsplit rfl rfl rfl (fun hb => ?_) (fun hb => ?_) <;> refine fct hb (fun hp => ?_))) | refine c_go ?_ | refine s_region ?_ | refine d_region ?_ | (refine L.cond rfl (fun hb => ?_) (fun hb => ?_) <;> refine fct hb (fun hp => ?_))))
      apply L.ends; exact rfl; exact rfl; exact Sub.refl _
      exact Wk.mk' keys_some .nil (.cons rfl rfl (Subs.refl _) (.cons rfl rfl (Subs.refl _) .nil)) .nil
    | false =>
      rw [hq] at hcz
      (repeat' (first | (apply s_callFn (f := f) (bxi := [(1001, b)]); exact rfl; exact hG; exact rfl; exact hcz; exact rfl; exact .cons rfl rfl (Subs.refl _) .nil; exact hmb; exact rfl) | (refine LW.is ?_; first | (apply s_vr; exact rfl; apply v_indexBsh; exact rfl; exact rfl; omega; exact g1; exact g4) | (apply s_vr; exact rfl; apply v_loadAP; exact rfl; exact rfl; exact g5; exact rfl) | refine s_v ?_ | refine s_m ?_ | refine s_nil ?_ | refine s_gd ?_ | (refine s_gsplit rfl rfl rfl (fun hb => ?_) (fun hb => ?_) <;> refine fct hb (fun hp => ?_))) | (refine DR.is ?_; first | (apply d_vr; exact rfl; apply v_indexBsh; exact rfl; exact rfl; omega; exact g1; exact g4) | (apply d_vr; exact rfl; apply v_loadAP; exact rfl; exact rfl; exact g5; exact rfl) | refine d_v ?_ | refine d_m ?_ | (apply d_nil; kernel_rfl) | refine d_gd ?_ | (refine d_gsplit rfl rfl rfl (fun hb => ?_) (fun hb => ?_) <;> refine fct hb (fun hp => ?_))) | refine c_go ?_ | refine s_region ?_ | refine d_region ?_ | (refine L.cond rfl (fun hb => ?_) (fun hb => ?_) <;> refine fct hb (fun hp => ?_))))
      refine hK _ (i + 1) (take_snoc hI hx hq) (by omega) ?_
      exact Wk.mk' keys_some (.cons rfl (Sub.refl _) (.cons rfl (Sub.refl _) (.cons rfl (Sub.refl _) (.cons rfl (Sub.refl _) .nil)))) (.cons rfl rfl (Subs.refl _) (.cons rfl rfl (Subs.refl _) .nil)) .nil
set_option maxHeartbeats 4000000 in
theorem ixX_any {gs : Globs} {f : FuncId} {b : Box} [CallTy Tryd.prog f] (p : Idx → Bool) (l : List Idx) (hne : l ≠ []) (hl : l.length ≤ 140737488355328) (hmb : [(1001, b)].all (fun p => !p.2.cs.isEmpty && AV.mentsIn (keys [(1001, b)]) p.2.cs) = true)
    (hc : ∀ y ∈ l, CallG gs Tryd.prog f ([.agg (y.c.map .iv)] ++ [.ptr 1001 0]) [(1001, b)] [(1001, b)] [] (aB (p y))) :
    CallG gs Tryd.prog 90 [.bsh 1000 0 l.length 3, .fn f [.ptr 1001 0]] [(1000, ⟨81, .r (l.map Idx.c).flatten 0⟩), (1001, b)] [(1000, ⟨81, .r (l.map Idx.c).flatten 0⟩), (1001, b)] [] (aI (idxM p l)) := by
  refine CallG.intro _ Tryd.func90 rfl Tryd.ntmps90 rfl (fun w0 E0 hG => ?_)
  have hk : ∀ e ∈ l.map Idx.c, e.length = 3 := by intro e he; obtain ⟨t, _, rfl⟩ := List.mem_map.1 he; rfl
  (repeat' (first | (refine LW.is ?_; first | refine s_v ?_ | refine s_m ?_ | refine s_nil ?_ | refine s_gd ?_ | (refine s_gsplit rfl rfl rfl (fun hb => ?_) (fun hb => ?_) <;> refine fct hb (fun hp => ?_))) | (refine DR.is ?_; first | refine d_v ?_ | refine d_m ?_ | (apply d_nil; kernel_rfl) | refine d_gd ?_ | (refine d_gsplit rfl rfl rfl (fun hb => ?_) (fun hb => ?_) <;> refine fct hb (fun hp => ?_))) | refine c_go ?_ | refine s_region ?_ | refine d_region ?_ | (refine L.cond rfl (fun hb => ?_) (fun hb => ?_) <;> refine fct hb (fun hp => ?_))))
  refine L.loopP (ι := Nat) (fun i => ⟨[(8, aI (i : Int)), (7, aI (l.length : Int)), (0, .bsh 1000 0 l.length 3), (1, .fn f [.ptr 1001 0])], [(1000, ⟨81, .r (l.map Idx.c).flatten 0⟩), (1001, b)], []⟩) (fun i => l.length - i) (fun i => ∀ y ∈ l.take i, p y = false) (i0 := 0) ?_ (by simp) ?_
  · exact Wk.mkX keys_some (.cons rfl (Sub.refl _) (.cons rfl (Sub.refl _) (.cons rfl (Sub.refl _) (.cons rfl (Sub.refl _) .nil)))) (fun s v h => h) .nil
  intro i hI K hK
  cases hx : l[i]? with
  | none =>
    have hlt : decide ((i : Int) < (l.length : Int)) = false := by have := List.getElem?_eq_none_iff.1 hx; exact decide_eq_false (by omega)
    rw [idx_no (take_full hI hx)]
    (repeat' (first | (refine LW.is ?_; first | refine s_v ?_ | refine s_m ?_ | refine s_nil ?_ | refine s_gd ?_ | (refine s_gsplit rfl rfl rfl (fun hb => ?_) (fun hb => ?_) <;> refine fct hb (fun hp => ?_))) | (refine DR.is ?_; first | refine d_v ?_ | refine d_m ?_ | (apply d_nil; kernel_rfl) | refine d_gd ?_ | (refine d_gsplit rfl rfl rfl (fun hb => ?_) (fun hb => ?_) <;> refine fct hb (fun hp => ?_))) | refine c_go ?_ | refine s_region ?_ | refine d_region ?_ | (refine L.cond rfl (fun hb => ?_) (fun hb => ?_) <;> refine fct hb (fun hp => ?_))))
    apply L.ends; exact rfl; exact rfl; exact Sub.refl _
    exact Wk.mkX keys_some .nil (fun s v h => h) .nil
  | some y =>
    have hlt' := (List.getElem?_eq_some_iff.1 hx).1
    have hlt : decide ((i : Int) < (l.length : Int)) = true := decide_eq_true (by omega)
    have hcz := hc y (List.mem_of_getElem? hx)
    have g1 : ((i : Nat) : Int) < (l.length : Int) := by omega
    have g4 : (0 + ((i : Nat) : Int).toNat) * 3 = i * 3 := by rw [Int.toNat_natCast, Nat.zero_add]
    have g5 : ((Box.mk 81 (.r (l.map Idx.c).flatten 0)).cs.drop (i * 3)).take 3 = y.c.map .iv := rowAt hk (by rw [List.getElem?_map, hx]; rfl)
    cases hq : p y with
    | true =>
      rw [hq] at hcz
      rw [idx_at hI hx hq]
      (repeat' (first | (apply s_callFn (f := f) (bxi := [(1001, b)]); exact rfl; exact hG; exact rfl; exact hcz; exact rfl; exact .cons rfl rfl (Subs.refl _) .nil; exact hmb; exact rfl) | (refine LW.is ?_; first | (apply s_vr; exact rfl; apply v_indexBsh; exact rfl; exact rfl; omega; exact g1; exact g4) | (apply s_vr; exact rfl; apply v_loadAP; exact rfl; exact rfl; exact g5; exact rfl) | refine s_v ?_ | refine s_m ?_ | refine s_nil ?_ | refine s_gd ?_ | (refine s_gsplit rfl rfl rfl (fun hb => ?_) (fun hb => ?_) <;> refine fct hb (fun hp => ?_))) | (refine DR.is ?_; first | (apply d_vr; exact rfl; apply v_indexBsh; exact rfl; exact rfl; omega; exact g1; exact g4) | (apply d_vr; exact rfl; apply v_loadAP; exact rfl; exact rfl; exact g5; exact rfl) | refine d_v ?_ | refine d_m ?_ | (apply d_nil; kernel_rfl) | refine d_gd ?_ | (refine d_gsplit rfl rfl rfl (fun hb => ?_) (fun hb => ?_) <;> refine fct hb (fun hp => ?_))) | refine c_go ?_ | refine s_region ?_ | refine d_region ?_ | (refine L.cond rfl (fun hb => ?_) (fun hb => ?_) <;> refine fct hb (fun hp => ?_))))
      apply L.ends; exact rfl; exact rfl; exact Sub.refl _
      exact Wk.mk' keys_some .nil (.cons rfl rfl (Subs.refl _) (.cons rfl rfl (Subs.refl _) .nil)) .nil
    | false =>
      rw [hq] at hcz
      (repeat' (first | (apply s_callFn (f := f) (bxi := [(1001, b)]); exact rfl; exact hG; exact rfl; exact hcz; exact rfl; exact .cons rfl rfl (Subs.refl _) .nil; exact hmb; exact rfl) | (refine LW.is ?_; first | (apply s_vr; exact rfl; apply v_indexBsh; exact rfl; exact rfl; omega; exact g1; exact g4) | (apply s_vr; exact rfl; apply v_loadAP; exact rfl; exact rfl; exact g5; exact rfl) | refine s_v ?_ | refine s_m ?_ | refine s_nil ?_ | refine s_gd ?_ | (refine s_gsplit rfl rfl rfl (fun hb => ?_) (fun hb => ?_) <;> refine fct hb (fun hp => ?_))) | (refine DR.is ?_; first | (apply d_vr; exact rfl; apply v_indexBsh; exact rfl; exact rfl; omega; exact g1; exact g4) | (apply d_vr; exact rfl; apply v_loadAP; exact rfl; exact rfl; exact g5; exact rfl) | refine d_v ?_ | refine d_m ?_ | (apply d_nil; kernel_rfl) | refine d_gd ?_ | (refine d_gsplit rfl rfl rfl (fun hb => ?_) (fun hb => ?_) <;> refine fct hb (fun hp => ?_))) | refine c_go ?_ | refine s_region ?_ | refine d_region ?_ | (refine L.cond rfl (fun hb => ?_) (fun hb => ?_) <;> refine fct hb (fun hp => ?_))))
      refine hK _ (i + 1) (take_snoc hI hx hq) (by omega) ?_
      exact Wk.mk' keys_some (.cons rfl (Sub.refl _) (.cons rfl (Sub.refl _) (.cons rfl (Sub.refl _) (.cons rfl (Sub.refl _) .nil)))) (.cons rfl rfl (Subs.refl _) (.cons rfl rfl (Subs.refl _) .nil)) .nil
end Go.Proofs.YthkobnpogigkiaaDoor
/- Tables and indexes: what DeleteFunc computes over a row of one's own. Conditions: how much there is of what comes in. -/
namespace Go.Proofs.YthkobnpogigkiaaDoor
open Go.Abs
set_option maxRecDepth 100000
attribute [local irreducible] L Code.wp bodyPost Exit.then Exit.inBlock
set_option linter.unusedVariables false
set_option linter.unusedSimpArgs false
theorem rowAtM {k i mm : Nat} {es : List (List IV)} {e : List IV} (hk : ∀ e ∈ es, e.length = k) (h : es[i]? = some e) {t : TypeId} : ((Box.mk t (.r es.flatten mm)).cs.drop (i * k)).take k = e.map .iv := by
  have h1 := (List.getElem?_eq_some_iff.1 h).1
  have hfl := flatten_len es hk
  have he : e.length = k := hk e (List.mem_of_getElem? h)
  have h2 : (i + 1) * k ≤ es.length * k := Nat.mul_le_mul_right k h1
  rw [Nat.add_mul, Nat.one_mul] at h2
  rw [Box.cs_r, List.drop_append_of_le_length (by rw [List.length_map]; omega), List.take_append_of_le_length (by rw [List.length_drop, List.length_map]; omega), ← List.map_drop, ← List.map_take, flat_pick es i e hk h]
structure DI {α : Type} (p : α → Bool) (ts cur : List α) (i j : Nat) : Prop where
  l : cur.length = ts.length
  a : cur.take i = (ts.take j).filter (fun x => !p x)
  d : cur.drop j = ts.drop j
  lt : i < j
  le : j ≤ ts.length
theorem DI.at {α : Type} {p : α → Bool} {ts cur : List α} {i j : Nat} (h : DI p ts cur i j) : cur[j]? = ts[j]? := by
  have := congrArg (fun l => l[0]?) h.d
  simpa using this
theorem DI.keep {α : Type} {p : α → Bool} {ts cur : List α} {i j : Nat} {x : α} (h : DI p ts cur i j) (hx : ts[j]? = some x) (hp : p x = false) : DI p ts (cur.set i x) (i + 1) (j + 1) := by
  have hj := (List.getElem?_eq_some_iff.1 hx).1
  have hl := h.l; have hlt := h.lt
  refine ⟨by rw [List.length_set]; exact hl, ?_, ?_, by omega, by omega⟩
  · rw [List.take_add_one (l := ts), hx, List.filter_append, ← h.a, List.take_add_one, List.take_set_of_le (Nat.le_refl _), List.getElem?_set_self (by omega)]
    simp [hp]
  · rw [List.drop_set_of_lt (by omega), ← List.drop_drop, h.d, List.drop_drop]
theorem DI.drop {α : Type} {p : α → Bool} {ts cur : List α} {i j : Nat} {x : α} (h : DI p ts cur i j) (hx : ts[j]? = some x) (hp : p x = true) : DI p ts cur i (j + 1) := by
  have hj := (List.getElem?_eq_some_iff.1 hx).1
  have hlt := h.lt
  refine ⟨h.l, ?_, ?_, by omega, by omega⟩
  · rw [List.take_add_one (l := ts), hx, List.filter_append, ← h.a]; simp [hp]
  · rw [← List.drop_drop, h.d, List.drop_drop]
theorem DI.first {α : Type} {p : α → Bool} {ts : List α} {i : Nat} {x : α} (h : ∀ y ∈ ts.take i, p y = false) (hx : ts[i]? = some x) (hp : p x = true) : DI p ts ts i (i + 1) := by
  have hj := (List.getElem?_eq_some_iff.1 hx).1
  refine ⟨rfl, ?_, rfl, by omega, by omega⟩
  rw [List.take_add_one, hx, List.filter_append, List.filter_eq_self.2 (fun y hy => by rw [h y hy]; rfl)]
  simp [hp]
theorem DI.full {α : Type} {p : α → Bool} {ts cur : List α} {i j : Nat} (h : DI p ts cur i j) (hx : ts[j]? = none) : cur.take i = ts.filter (fun x => !p x) ∧ (ts.filter (fun x => !p x)).length = i := by
  have e : cur.take i = ts.filter (fun x => !p x) := by rw [h.a, List.take_of_length_le (List.getElem?_eq_none_iff.1 hx)]
  refine ⟨e, ?_⟩
  rw [← e, List.length_take, h.l]; have := h.lt; have := h.le; omega
set_option maxHeartbeats 8000000 in
theorem dfT_some {gs : Globs} {f : FuncId} {s : Stm} [CallTy Tryd.prog f] (p : Tab → Bool) (l : List Tab) (hne : l ≠ []) (hl : l.length ≤ 140737488355328) (hmb : [(1001, (Box.mk 36 (.l (s.cs.map .iv))))].all (fun p => !p.2.cs.isEmpty && AV.mentsIn (keys [(1001, (Box.mk 36 (.l (s.cs.map .iv))))]) p.2.cs) = true)
    (hmx : ([(1000, ⟨43, .r (l.map Tab.c).flatten 0⟩), (1001, (Box.mk 36 (.l (s.cs.map .iv))))] : List (Nat × Box)).all (fun p => !p.2.cs.isEmpty && AV.mentsIn (keys [(1000, ⟨43, .r (l.map Tab.c).flatten 0⟩), (1001, (Box.mk 36 (.l (s.cs.map .iv))))]) p.2.cs) = true)
    (hc : ∀ y ∈ l, CallG gs Tryd.prog f ([.agg [.iv (S y.n), .iv (.sl (y.cols.map Col.c))]] ++ [.ptr 1001 0]) [(1001, (Box.mk 36 (.l (s.cs.map .iv))))] [(1001, (Box.mk 36 (.l (s.cs.map .iv))))] [] (aB (p y))) (hnk : l.filter (fun x => !p x) ≠ [])
    (i0 : Nat) (x0 : Tab) (hbef : ∀ y ∈ l.take i0, p y = false) (hx0 : l[i0]? = some x0) (hp0 : p x0 = true) :
    CallG gs Tryd.prog 66 [.bsh 1000 0 l.length 2, .fn f [.ptr 1001 0]] [(1000, ⟨43, .r (l.map Tab.c).flatten 0⟩), (1001, (Box.mk 36 (.l (s.cs.map .iv))))] [(1002, ⟨43, .r ((l.filter (fun x => !p x)).map Tab.c).flatten 0⟩), (1000, ⟨43, .l []⟩), (1001, (Box.mk 36 (.l (s.cs.map .iv))))] [] (.bsh 1002 0 (l.filter (fun x => !p x)).length 2) := by
  refine CallG.intro _ Tryd.func66 rfl Tryd.ntmps66 rfl (fun w0 E0 hG => ?_)
  have hk : ∀ e ∈ l.map Tab.c, e.length = 2 := by intro e he; obtain ⟨t, _, rfl⟩ := List.mem_map.1 he; rfl
  have hfl : (l.map Tab.c).flatten.length = l.length * 2 := by rw [flatten_len _ hk, List.length_map]
  have hfne : (l.map Tab.c).flatten ≠ [] := flat_ne hk (by decide) (by simpa using hne)
  have kx := ixT_any (gs := gs) (f := f) (b := (Box.mk 36 (.l (s.cs.map .iv)))) p l hne hl hmb hc
  rw [idx_at hbef hx0 hp0] at kx
  have hi0 := (List.getElem?_eq_some_iff.1 hx0).1
  have he : ((i0 : Int) == -1) = false := beq_eq_false_iff_ne.2 (by omega)
  (repeat' (first | (apply s_callX (bxi := [(1000, ⟨43, .r (l.map Tab.c).flatten 0⟩), (1001, (Box.mk 36 (.l (s.cs.map .iv))))]); exact rfl; exact hG; exact kx; exact rfl; exact .cons rfl rfl (Subs.refl _) (.cons rfl rfl (Subs.refl _) .nil); exact hmx; exact rfl) | (refine LW.is ?_; first | refine s_v ?_ | refine s_m ?_ | refine s_nil ?_ | refine s_gd ?_ | (refine s_gsplit rfl rfl rfl (fun hb => ?_) (fun hb => ?_) <;> refine fct hb (fun hp => ?_))) | (refine DR.is ?_; first | refine d_v ?_ | refine d_m ?_ | (apply d_nil; kernel_rfl) | refine d_gd ?_ | (refine d_gsplit rfl rfl rfl (fun hb => ?_) (fun hb => ?_) <;> refine fct hb (fun hp => ?_))) | refine c_go ?_ | refine s_region ?_ | refine d_region ?_ | (refine L.cond rfl (fun hb => ?_) (fun hb => ?_) <;> refine fct hb (fun hp => ?_))))
  refine L.openRow 0 rfl rfl (.inl hfne) (by omega) (fun cap hc1 hc2 => ?_)
  obtain ⟨mm, hmm⟩ : ∃ mm, mm = cap * 2 - (l.map Tab.c).flatten.length := ⟨_, rfl⟩
  rw [← hmm]
  rw [hfl] at hmm
  refine L.loopP (ι := List Tab × Nat × Nat) (fun x => ⟨[(5, aI (x.2.1 : Int)), (6, aI (x.2.2 : Int)), (0, .bsl 1000 0 l.length cap), (1, .fn f [.ptr 1001 0])], [(1000, ⟨43, .r (x.1.map Tab.c).flatten mm⟩), (1001, (Box.mk 36 (.l (s.cs.map .iv))))], []⟩) (fun x => l.length - x.2.2) (fun x => DI p l x.1 x.2.1 x.2.2) (i0 := (l, i0, i0 + 1)) ?_ (.first hbef hx0 hp0) ?_
  · exact Wk.mk' (by intro id h; simp [keys] at h; rcases h with rfl | rfl <;> rfl) (.cons rfl (Sub.refl _) (.cons rfl (Sub.of_eq rfl) (.cons rfl (Sub.refl _) (.cons rfl (Sub.refl _) .nil)))) (.cons rfl rfl (Subs.refl _) (.cons rfl rfl (Subs.refl _) .nil)) .nil
  rintro ⟨cur, i, j⟩ hD K hK
  dsimp only at hD hK ⊢
  have hlt0 := hD.lt
  have hle0 := hD.le
  have hcu := hD.l
  have hkc : ∀ e ∈ cur.map Tab.c, e.length = 2 := by intro e he; obtain ⟨t, _, rfl⟩ := List.mem_map.1 he; rfl
  have hlc : (cur.map Tab.c).length = l.length := by rw [List.length_map, hcu]
  have hic : i < (cur.map Tab.c).length := by rw [hlc]; omega
  cases hx : l[j]? with
  | none =>
    obtain ⟨hcl0, hci⟩ := hD.full hx
    have hcl : (cur.map Tab.c).take i = (l.filter (fun x => !p x)).map Tab.c := by rw [← List.map_take, hcl0]
    have hj := List.getElem?_eq_none_iff.1 hx
    have hlt : decide ((j : Int) < (l.length : Int)) = false := decide_eq_false (by omega)
    generalize hG2 : l.filter (fun x => !p x) = kept at *
    (repeat' (first | (refine LW.is ?_; first | (apply s_vr; exact rfl; apply v_slBl (off' := i * 2) (n' := l.length - i) (cap' := cap - i); exact rfl; exact rfl; omega; omega; omega; omega; omega) | (apply s_clearR (j := i); exact rfl; exact rfl; exact hkc; exact rfl; (rw [hlc]; omega); omega; (rw [hlc]; omega); exact hcl; exact rfl) | (apply s_vr; exact rfl; apply v_slBh (n' := i); exact rfl; exact rfl; omega; omega; omega) | refine s_v ?_ | refine s_m ?_ | refine s_nil ?_ | refine s_gd ?_ | (refine s_gsplit rfl rfl rfl (fun hb => ?_) (fun hb => ?_) <;> refine fct hb (fun hp => ?_))) | (refine DR.is ?_; first | (apply d_vr; exact rfl; apply v_slBl (off' := i * 2) (n' := l.length - i) (cap' := cap - i); exact rfl; exact rfl; omega; omega; omega; omega; omega) | (apply d_clearR (j := i); exact rfl; exact rfl; exact hkc; exact rfl; (rw [hlc]; omega); omega; (rw [hlc]; omega); exact hcl; exact rfl) | (apply d_vr; exact rfl; apply v_slBh (n' := i); exact rfl; exact rfl; omega; omega; omega) | refine d_v ?_ | refine d_m ?_ | (apply d_nil; kernel_rfl) | refine d_gd ?_ | (refine d_gsplit rfl rfl rfl (fun hb => ?_) (fun hb => ?_) <;> refine fct hb (fun hp => ?_))) | refine c_go ?_ | refine s_region ?_ | refine d_region ?_ | (refine L.cond rfl (fun hb => ?_) (fun hb => ?_) <;> refine fct hb (fun hp => ?_))))
    have hpos : 0 < i := by rw [← hci]; exact List.length_pos_iff.2 hnk
    have hkk : ∀ e ∈ kept.map Tab.c, e.length = 2 := by intro e he; obtain ⟨t, _, rfl⟩ := List.mem_map.1 he; rfl
    all_goals (apply L.renameR 4 1002 (k := 2) (n := i); exact rfl; exact rfl; exact rfl; exact hkk; (rw [List.length_map]; exact hci); omega; (rw [hlc]; omega))
    all_goals (apply L.ends; exact rfl; exact rfl; exact Sub.of_eq (congrArg (fun z => AV.bsh 1002 0 z 2) hci.symm); exact Wk.mk' (by intro id h; simp [keys] at h; rcases h with rfl | rfl <;> rfl) .nil (.cons rfl rfl (Subs.refl _) (.cons rfl rfl (Subs.refl _) (.cons rfl rfl (Subs.refl _) .nil))) .nil)
  | some y =>
    have hlt' := (List.getElem?_eq_some_iff.1 hx).1
    have hlt : decide ((j : Int) < (l.length : Int)) = true := decide_eq_true (by omega)
    have hcz := hc y (List.mem_of_getElem? hx)
    have g1 : ((j : Nat) : Int) < (l.length : Int) := by omega
    have g4 : 0 + ((j : Nat) : Int).toNat * 2 = j * 2 := by rw [Int.toNat_natCast, Nat.zero_add]
    have h1 : ((i : Nat) : Int) < (l.length : Int) := by omega
    have h4 : 0 + ((i : Nat) : Int).toNat * 2 = i * 2 := by rw [Int.toNat_natCast, Nat.zero_add]
    have g5 : ((Box.mk 43 (.r (cur.map Tab.c).flatten mm)).cs.drop (j * 2)).take 2 = [.iv (S y.n), .iv (.sl (y.cols.map Col.c))] := rowAtM hkc (by rw [List.getElem?_map, hD.at, hx]; rfl)
    cases hq : p y with
    | true =>
      rw [hq] at hcz
      (repeat' (first | (apply s_callFn (f := f) (bxi := [(1001, (Box.mk 36 (.l (s.cs.map .iv))))]); exact rfl; exact hG; exact rfl; exact hcz; exact rfl; exact .cons rfl rfl (Subs.refl _) .nil; exact hmb; exact rfl) | (refine LW.is ?_; first | (apply s_vr; exact rfl; apply v_indexBsl; exact rfl; exact rfl; omega; exact g1; exact g4) | (apply s_vr; exact rfl; apply v_indexBsl; exact rfl; exact rfl; omega; exact h1; exact h4) | (apply s_vr; exact rfl; apply v_loadAP; exact rfl; exact rfl; exact g5; exact rfl) | (apply s_storeR (i := i) (e := y.c) (er := (cur.set i y).map Tab.c); exact rfl; exact rfl; exact rfl; exact rfl; exact rfl; exact rfl; exact hkc; exact rfl; exact hic; exact List.map_set.symm) | refine s_v ?_ | refine s_m ?_ | refine s_nil ?_ | refine s_gd ?_ | (refine s_gsplit rfl rfl rfl (fun hb => ?_) (fun hb => ?_) <;> refine fct hb (fun hp => ?_))) | (refine DR.is ?_; first | (apply d_vr; exact rfl; apply v_indexBsl; exact rfl; exact rfl; omega; exact g1; exact g4) | (apply d_vr; exact rfl; apply v_indexBsl; exact rfl; exact rfl; omega; exact h1; exact h4) | (apply d_vr; exact rfl; apply v_loadAP; exact rfl; exact rfl; exact g5; exact rfl) | (apply d_storeR (i := i) (e := y.c) (er := (cur.set i y).map Tab.c); exact rfl; exact rfl; exact rfl; exact rfl; exact rfl; exact rfl; exact hkc; exact rfl; exact hic; exact List.map_set.symm) | refine d_v ?_ | refine d_m ?_ | (apply d_nil; kernel_rfl) | refine d_gd ?_ | (refine d_gsplit rfl rfl rfl (fun hb => ?_) (fun hb => ?_) <;> refine fct hb (fun hp => ?_))) | refine c_go ?_ | refine s_region ?_ | refine d_region ?_ | (refine L.cond rfl (fun hb => ?_) (fun hb => ?_) <;> refine fct hb (fun hp => ?_))))
      refine hK _ (cur, i, j + 1) (hD.drop hx hq) (by dsimp only; omega) ?_
      exact Wk.mk' (by intro id h; simp [keys] at h; rcases h with rfl | rfl <;> rfl) (.cons rfl (Sub.refl _) (.cons rfl (Sub.refl _) (.cons rfl (Sub.refl _) (.cons rfl (Sub.refl _) .nil)))) (.cons rfl rfl (Subs.refl _) (.cons rfl rfl (Subs.refl _) .nil)) .nil
    | false =>
      rw [hq] at hcz
      (repeat' (first | (apply s_callFn (f := f) (bxi := [(1001, (Box.mk 36 (.l (s.cs.map .iv))))]); exact rfl; exact hG; exact rfl; exact hcz; exact rfl; exact .cons rfl rfl (Subs.refl _) .nil; exact hmb; exact rfl) | (refine LW.is ?_; first | (apply s_vr; exact rfl; apply v_indexBsl; exact rfl; exact rfl; omega; exact g1; exact g4) | (apply s_vr; exact rfl; apply v_indexBsl; exact rfl; exact rfl; omega; exact h1; exact h4) | (apply s_vr; exact rfl; apply v_loadAP; exact rfl; exact rfl; exact g5; exact rfl) | (apply s_storeR (i := i) (e := y.c) (er := (cur.set i y).map Tab.c); exact rfl; exact rfl; exact rfl; exact rfl; exact rfl; exact rfl; exact hkc; exact rfl; exact hic; exact List.map_set.symm) | refine s_v ?_ | refine s_m ?_ | refine s_nil ?_ | refine s_gd ?_ | (refine s_gsplit rfl rfl rfl (fun hb => ?_) (fun hb => ?_) <;> refine fct hb (fun hp => ?_))) | (refine DR.is ?_; first | (apply d_vr; exact rfl; apply v_indexBsl; exact rfl; exact rfl; omega; exact g1; exact g4) | (apply d_vr; exact rfl; apply v_indexBsl; exact rfl; exact rfl; omega; exact h1; exact h4) | (apply d_vr; exact rfl; apply v_loadAP; exact rfl; exact rfl; exact g5; exact rfl) | (apply d_storeR (i := i) (e := y.c) (er := (cur.set i y).map Tab.c); exact rfl; exact rfl; exact rfl; exact rfl; exact rfl; exact rfl; exact hkc; exact rfl; exact hic; exact List.map_set.symm) | refine d_v ?_ | refine d_m ?_ | (apply d_nil; kernel_rfl) | refine d_gd ?_ | (refine d_gsplit rfl rfl rfl (fun hb => ?_) (fun hb => ?_) <;> refine fct hb (fun hp => ?_))) | refine c_go ?_ | refine s_region ?_ | refine d_region ?_ | (refine L.cond rfl (fun hb => ?_) (fun hb => ?_) <;> refine fct hb (fun hp => ?_))))
      refine hK _ (cur.set i y, i + 1, j + 1) (hD.keep hx hq) (by dsimp only; omega) ?_
      exact Wk.mk' (by intro id h; simp [keys] at h; rcases h with rfl | rfl <;> rfl) (.cons rfl (Sub.refl _) (.cons rfl (Sub.refl _) (.cons rfl (Sub.refl _) (.cons rfl (Sub.refl _) .nil)))) (.cons rfl rfl (Subs.refl _) (.cons rfl rfl (Subs.refl _) .nil)) .nil
set_option maxHeartbeats 8000000 in
theorem dfT_none {gs : Globs} {f : FuncId} {s : Stm} [CallTy Tryd.prog f] (p : Tab → Bool) (l : List Tab) (hne : l ≠ []) (hl : l.length ≤ 140737488355328) (hmb : [(1001, (Box.mk 36 (.l (s.cs.map .iv))))].all (fun p => !p.2.cs.isEmpty && AV.mentsIn (keys [(1001, (Box.mk 36 (.l (s.cs.map .iv))))]) p.2.cs) = true)
    (hmx : ([(1000, ⟨43, .r (l.map Tab.c).flatten 0⟩), (1001, (Box.mk 36 (.l (s.cs.map .iv))))] : List (Nat × Box)).all (fun p => !p.2.cs.isEmpty && AV.mentsIn (keys [(1000, ⟨43, .r (l.map Tab.c).flatten 0⟩), (1001, (Box.mk 36 (.l (s.cs.map .iv))))]) p.2.cs) = true)
    (hc : ∀ y ∈ l, CallG gs Tryd.prog f ([.agg [.iv (S y.n), .iv (.sl (y.cols.map Col.c))]] ++ [.ptr 1001 0]) [(1001, (Box.mk 36 (.l (s.cs.map .iv))))] [(1001, (Box.mk 36 (.l (s.cs.map .iv))))] [] (aB (p y))) (hnk : l.filter (fun x => !p x) = [])
    (i0 : Nat) (x0 : Tab) (hbef : ∀ y ∈ l.take i0, p y = false) (hx0 : l[i0]? = some x0) (hp0 : p x0 = true) :
    CallG gs Tryd.prog 66 [.bsh 1000 0 l.length 2, .fn f [.ptr 1001 0]] [(1000, ⟨43, .r (l.map Tab.c).flatten 0⟩), (1001, (Box.mk 36 (.l (s.cs.map .iv))))] [(1000, ⟨43, .l []⟩), (1001, (Box.mk 36 (.l (s.cs.map .iv))))] [] (.iv (.sl [])) := by
  refine CallG.intro _ Tryd.func66 rfl Tryd.ntmps66 rfl (fun w0 E0 hG => ?_)
  have hk : ∀ e ∈ l.map Tab.c, e.length = 2 := by intro e he; obtain ⟨t, _, rfl⟩ := List.mem_map.1 he; rfl
  have hfl : (l.map Tab.c).flatten.length = l.length * 2 := by rw [flatten_len _ hk, List.length_map]
  have hfne : (l.map Tab.c).flatten ≠ [] := flat_ne hk (by decide) (by simpa using hne)
  have kx := ixT_any (gs := gs) (f := f) (b := (Box.mk 36 (.l (s.cs.map .iv)))) p l hne hl hmb hc
  rw [idx_at hbef hx0 hp0] at kx
  have hi0 := (List.getElem?_eq_some_iff.1 hx0).1
  have he : ((i0 : Int) == -1) = false := beq_eq_false_iff_ne.2 (by omega)
  (repeat' (first | (apply s_callX (bxi := [(1000, ⟨43, .r (l.map Tab.c).flatten 0⟩), (1001, (Box.mk 36 (.l (s.cs.map .iv))))]); exact rfl; exact hG; exact kx; exact rfl; exact .cons rfl rfl (Subs.refl _) (.cons rfl rfl (Subs.refl _) .nil); exact hmx; exact rfl) | (refine LW.is ?_; first | refine s_v ?_ | refine s_m ?_ | refine s_nil ?_ | refine s_gd ?_ | (refine s_gsplit rfl rfl rfl (fun hb => ?_) (fun hb => ?_) <;> refine fct hb (fun hp => ?_))) | (refine DR.is ?_; first | refine d_v ?_ | refine d_m ?_ | (apply d_nil; kernel_rfl) | refine d_gd ?_ | (refine d_gsplit rfl rfl rfl (fun hb => ?_) (fun hb => ?_) <;> refine fct hb (fun hp => ?_))) | refine c_go ?_ | refine s_region ?_ | refine d_region ?_ | (refine L.cond rfl (fun hb => ?_) (fun hb => ?_) <;> refine fct hb (fun hp => ?_))))
  refine L.openRow 0 rfl rfl (.inl hfne) (by omega) (fun cap hc1 hc2 => ?_)
  obtain ⟨mm, hmm⟩ : ∃ mm, mm = cap * 2 - (l.map Tab.c).flatten.length := ⟨_, rfl⟩
  rw [← hmm]
  rw [hfl] at hmm
  refine L.loopP (ι := List Tab × Nat × Nat) (fun x => ⟨[(5, aI (x.2.1 : Int)), (6, aI (x.2.2 : Int)), (0, .bsl 1000 0 l.length cap), (1, .fn f [.ptr 1001 0])], [(1000, ⟨43, .r (x.1.map Tab.c).flatten mm⟩), (1001, (Box.mk 36 (.l (s.cs.map .iv))))], []⟩) (fun x => l.length - x.2.2) (fun x => DI p l x.1 x.2.1 x.2.2) (i0 := (l, i0, i0 + 1)) ?_ (.first hbef hx0 hp0) ?_
  · exact Wk.mk' (by intro id h; simp [keys] at h; rcases h with rfl | rfl <;> rfl) (.cons rfl (Sub.refl _) (.cons rfl (Sub.of_eq rfl) (.cons rfl (Sub.refl _) (.cons rfl (Sub.refl _) .nil)))) (.cons rfl rfl (Subs.refl _) (.cons rfl rfl (Subs.refl _) .nil)) .nil
  rintro ⟨cur, i, j⟩ hD K hK
  dsimp only at hD hK ⊢
  have hlt0 := hD.lt
  have hle0 := hD.le
  have hcu := hD.l
  have hkc : ∀ e ∈ cur.map Tab.c, e.length = 2 := by intro e he; obtain ⟨t, _, rfl⟩ := List.mem_map.1 he; rfl
  have hlc : (cur.map Tab.c).length = l.length := by rw [List.length_map, hcu]
  have hic : i < (cur.map Tab.c).length := by rw [hlc]; omega
  cases hx : l[j]? with
  | none =>
    obtain ⟨hcl0, hci⟩ := hD.full hx
    have hcl : (cur.map Tab.c).take i = (l.filter (fun x => !p x)).map Tab.c := by rw [← List.map_take, hcl0]
    have hj := List.getElem?_eq_none_iff.1 hx
    have hlt : decide ((j : Int) < (l.length : Int)) = false := decide_eq_false (by omega)
    generalize hG2 : l.filter (fun x => !p x) = kept at *
    (repeat' (first | (refine LW.is ?_; first | (apply s_vr; exact rfl; apply v_slBl (off' := i * 2) (n' := l.length - i) (cap' := cap - i); exact rfl; exact rfl; omega; omega; omega; omega; omega) | (apply s_clearR (j := i); exact rfl; exact rfl; exact hkc; exact rfl; (rw [hlc]; omega); omega; (rw [hlc]; omega); exact hcl; exact rfl) | (apply s_vr; exact rfl; apply v_slBh (n' := i); exact rfl; exact rfl; omega; omega; omega) | refine s_v ?_ | refine s_m ?_ | refine s_nil ?_ | refine s_gd ?_ | (refine s_gsplit rfl rfl rfl (fun hb => ?_) (fun hb => ?_) <;> refine fct hb (fun hp => ?_))) | (refine DR.is ?_; first | (apply d_vr; exact rfl; apply v_slBl (off' := i * 2) (n' := l.length - i) (cap' := cap - i); exact rfl; exact rfl; omega; omega; omega; omega; omega) | (apply d_clearR (j := i); exact rfl; exact rfl; exact hkc; exact rfl; (rw [hlc]; omega); omega; (rw [hlc]; omega); exact hcl; exact rfl) | (apply d_vr; exact rfl; apply v_slBh (n' := i); exact rfl; exact rfl; omega; omega; omega) | refine d_v ?_ | refine d_m ?_ | (apply d_nil; kernel_rfl) | refine d_gd ?_ | (refine d_gsplit rfl rfl rfl (fun hb => ?_) (fun hb => ?_) <;> refine fct hb (fun hp => ?_))) | refine c_go ?_ | refine s_region ?_ | refine d_region ?_ | (refine L.cond rfl (fun hb => ?_) (fun hb => ?_) <;> refine fct hb (fun hp => ?_))))
    subst hnk
    all_goals refine L.kill 1000 rfl (row_ne (.inr (by rw [hlc]; omega))) ?_
    all_goals (apply L.ends; exact rfl; exact rfl; exact hci ▸ Sub.bsl0 _ _ _; exact Wk.mk' (by intro id h; simp [keys] at h; rcases h with rfl | rfl <;> rfl) .nil (.cons rfl rfl (Subs.refl _) (.cons rfl rfl (Subs.refl _) .nil)) .nil)
  | some y =>
    have hlt' := (List.getElem?_eq_some_iff.1 hx).1
    have hlt : decide ((j : Int) < (l.length : Int)) = true := decide_eq_true (by omega)
    have hcz := hc y (List.mem_of_getElem? hx)
    have g1 : ((j : Nat) : Int) < (l.length : Int) := by omega
    have g4 : 0 + ((j : Nat) : Int).toNat * 2 = j * 2 := by rw [Int.toNat_natCast, Nat.zero_add]
    have h1 : ((i : Nat) : Int) < (l.length : Int) := by omega
    have h4 : 0 + ((i : Nat) : Int).toNat * 2 = i * 2 := by rw [Int.toNat_natCast, Nat.zero_add]
    have g5 : ((Box.mk 43 (.r (cur.map Tab.c).flatten mm)).cs.drop (j * 2)).take 2 = [.iv (S y.n), .iv (.sl (y.cols.map Col.c))] := rowAtM hkc (by rw [List.getElem?_map, hD.at, hx]; rfl)
    cases hq : p y with
    | true =>
      rw [hq] at hcz
      (repeat' (first | (apply s_callFn (f := f) (bxi := [(1001, (Box.mk 36 (.l (s.cs.map .iv))))]); exact rfl; exact hG; exact rfl; exact hcz; exact rfl; exact .cons rfl rfl (Subs.refl _) .nil; exact hmb; exact rfl) | (refine LW.is ?_; first | (apply s_vr; exact rfl; apply v_indexBsl; exact rfl; exact rfl; omega; exact g1; exact g4) | (apply s_vr; exact rfl; apply v_indexBsl; exact rfl; exact rfl; omega; exact h1; exact h4) | (apply s_vr; exact rfl; apply v_loadAP; exact rfl; exact rfl; exact g5; exact rfl) | (apply s_storeR (i := i) (e := y.c) (er := (cur.set i y).map Tab.c); exact rfl; exact rfl; exact rfl; exact rfl; exact rfl; exact rfl; exact hkc; exact rfl; exact hic; exact List.map_set.symm) | refine s_v ?_ | refine s_m ?_ | refine s_nil ?_ | refine s_gd ?_ | (refine s_gsplit rfl rfl rfl (fun hb => ?_) (fun hb => ?_) <;> refine fct hb (fun hp => ?_))) | (refine DR.is ?_; first | (apply d_vr; exact rfl; apply v_indexBsl; exact rfl; exact rfl; omega; exact g1; exact g4) | (apply d_vr; exact rfl; apply v_indexBsl; exact rfl; exact rfl; omega; exact h1; exact h4) | (apply d_vr; exact rfl; apply v_loadAP; exact rfl; exact rfl; exact g5; exact rfl) | (apply d_storeR (i := i) (e := y.c) (er := (cur.set i y).map Tab.c); exact rfl; exact rfl; exact rfl; exact rfl; exact rfl; exact rfl; exact hkc; exact rfl; exact hic; exact List.map_set.symm) | refine d_v ?_ | refine d_m ?_ | (apply d_nil; kernel_rfl) | refine d_gd ?_ | (refine d_gsplit rfl rfl rfl (fun hb => ?_) (fun hb => ?_) <;> refine fct hb (fun hp => ?_))) | refine c_go ?_ | refine s_region ?_ | refine d_region ?_ | (refine L.cond rfl (fun hb => ?_) (fun hb => ?_) <;> refine fct hb (fun hp => ?_))))
      refine hK _ (cur, i, j + 1) (hD.drop hx hq) (by dsimp only; omega) ?_
      exact Wk.mk' (by intro id h; simp [keys] at h; rcases h with rfl | rfl <;> rfl) (.cons rfl (Sub.refl _) (.cons rfl (Sub.refl _) (.cons rfl (Sub.refl _) (.cons rfl (Sub.refl _) .nil)))) (.cons rfl rfl (Subs.refl _) (.cons rfl rfl (Subs.refl _) .nil)) .nil
    | false =>
      rw [hq] at hcz
      (repeat' (first | (apply s_callFn (f := f) (bxi := [(1001, (Box.mk 36 (.l (s.cs.map .iv))))]); exact rfl; exact hG; exact rfl; exact hcz; exact rfl; exact .cons rfl rfl (Subs.refl _) .nil; exact hmb; exact rfl) | (refine LW.is ?_; first | (apply s_vr; exact rfl; apply v_indexBsl; exact rfl; exact rfl; omega; exact g1; exact g4) | (apply s_vr; exact rfl; apply v_indexBsl; exact rfl; exact rfl; omega; exact h1; exact h4) | (apply s_vr; exact rfl; apply v_loadAP; exact rfl; exact rfl; exact g5; exact rfl) | (apply s_storeR (i := i) (e := y.c) (er := (cur.set i y).map Tab.c); exact rfl; exact rfl; exact rfl; exact rfl; exact rfl; exact rfl; exact hkc; exact rfl; exact hic; exact List.map_set.symm) | refine s_v ?_ | refine s_m ?_ | refine s_nil ?_ | refine s_gd ?_ | (refine s_gsplit rfl rfl rfl (fun hb => ?_) (fun hb => ?_) <;> refine fct hb (fun hp => ?_))) | (refine DR.is ?_; first | (apply d_vr; exact rfl; apply v_indexBsl; exact rfl; exact rfl; omega; exact g1; exact g4) | (apply d_vr; exact rfl; apply v_indexBsl; exact rfl; exact rfl; omega; exact h1; exact h4) | (apply d_vr; exact rfl; apply v_loadAP; exact rfl; exact rfl; exact g5; exact rfl) | (apply d_storeR (i := i) (e := y.c) (er := (cur.set i y).map Tab.c); exact rfl; exact rfl; exact rfl; exact rfl; exact rfl; exact rfl; exact hkc; exact rfl; exact hic; exact List.map_set.symm) | refine d_v ?_ | refine d_m ?_ | (apply d_nil; kernel_rfl) | refine d_gd ?_ | (refine d_gsplit rfl rfl rfl (fun hb => ?_) (fun hb => ?_) <;> refine fct hb (fun hp => ?_))) | refine c_go ?_ | refine s_region ?_ | refine d_region ?_ | (refine L.cond rfl (fun hb => ?_) (fun hb => ?_) <;> refine fct hb (fun hp => ?_))))
      refine hK _ (cur.set i y, i + 1, j + 1) (hD.keep hx hq) (by dsimp only; omega) ?_
      exact Wk.mk' (by intro id h; simp [keys] at h; rcases h with rfl | rfl <;> rfl) (.cons rfl (Sub.refl _) (.cons rfl (Sub.refl _) (.cons rfl (Sub.refl _) (.cons rfl (Sub.refl _) .nil)))) (.cons rfl rfl (Subs.refl _) (.cons rfl rfl (Subs.refl _) .nil)) .nil
set_option maxHeartbeats 8000000 in
theorem dfX_some {gs : Globs} {f : FuncId} {s : Stm} [CallTy Tryd.prog f] (p : Idx → Bool) (l : List Idx) (hne : l ≠ []) (hl : l.length ≤ 140737488355328) (hmb : [(1001, (Box.mk 36 (.l (s.cs.map .iv))))].all (fun p => !p.2.cs.isEmpty && AV.mentsIn (keys [(1001, (Box.mk 36 (.l (s.cs.map .iv))))]) p.2.cs) = true)
    (hmx : ([(1000, ⟨81, .r (l.map Idx.c).flatten 0⟩), (1001, (Box.mk 36 (.l (s.cs.map .iv))))] : List (Nat × Box)).all (fun p => !p.2.cs.isEmpty && AV.mentsIn (keys [(1000, ⟨81, .r (l.map Idx.c).flatten 0⟩), (1001, (Box.mk 36 (.l (s.cs.map .iv))))]) p.2.cs) = true)
    (hc : ∀ y ∈ l, CallG gs Tryd.prog f ([.agg [.iv (S y.n), .iv (S y.tb), .iv (S y.co)]] ++ [.ptr 1001 0]) [(1001, (Box.mk 36 (.l (s.cs.map .iv))))] [(1001, (Box.mk 36 (.l (s.cs.map .iv))))] [] (aB (p y))) (hnk : l.filter (fun x => !p x) ≠ [])
    (i0 : Nat) (x0 : Idx) (hbef : ∀ y ∈ l.take i0, p y = false) (hx0 : l[i0]? = some x0) (hp0 : p x0 = true) :
    CallG gs Tryd.prog 68 [.bsh 1000 0 l.length 3, .fn f [.ptr 1001 0]] [(1000, ⟨81, .r (l.map Idx.c).flatten 0⟩), (1001, (Box.mk 36 (.l (s.cs.map .iv))))] [(1002, ⟨81, .r ((l.filter (fun x => !p x)).map Idx.c).flatten 0⟩), (1000, ⟨81, .l []⟩), (1001, (Box.mk 36 (.l (s.cs.map .iv))))] [] (.bsh 1002 0 (l.filter (fun x => !p x)).length 3) := by
  refine CallG.intro _ Tryd.func68 rfl Tryd.ntmps68 rfl (fun w0 E0 hG => ?_)
  have hk : ∀ e ∈ l.map Idx.c, e.length = 3 := by intro e he; obtain ⟨t, _, rfl⟩ := List.mem_map.1 he; rfl
  have hfl : (l.map Idx.c).flatten.length = l.length * 3 := by rw [flatten_len _ hk, List.length_map]
  have hfne : (l.map Idx.c).flatten ≠ [] := flat_ne hk (by decide) (by simpa using hne)
  have kx := ixX_any (gs := gs) (f := f) (b := (Box.mk 36 (.l (s.cs.map .iv)))) p l hne hl hmb hc
  rw [idx_at hbef hx0 hp0] at kx
  have hi0 := (List.getElem?_eq_some_iff.1 hx0).1
  have he : ((i0 : Int) == -1) = false := beq_eq_false_iff_ne.2 (by omega)
  (repeat' (first | (apply s_callX (bxi := [(1000, ⟨81, .r (l.map Idx.c).flatten 0⟩), (1001, (Box.mk 36 (.l (s.cs.map .iv))))]); exact rfl; exact hG; exact kx; exact rfl; exact .cons rfl rfl (Subs.refl _) (.cons rfl rfl (Subs.refl _) .nil); exact hmx; exact rfl) | (refine LW.is ?_; first | refine s_v ?_ | refine s_m ?_ | refine s_nil ?_ | refine s_gd ?_ | (refine s_gsplit rfl rfl rfl (fun hb => ?_) (fun hb => ?_) <;> refine fct hb (fun hp => ?_))) | (refine DR.is ?_; first | refine d_v ?_ | refine d_m ?_ | (apply d_nil; kernel_rfl) | refine d_gd ?_ | (refine d_gsplit rfl rfl rfl (fun hb => ?_) (fun hb => ?_) <;> refine fct hb (fun hp => ?_))) | refine c_go ?_ | refine s_region ?_ | refine d_region ?_ | (refine L.cond rfl (fun hb => ?_) (fun hb => ?_) <;> refine fct hb (fun hp => ?_))))
  refine L.openRow 0 rfl rfl (.inl hfne) (by omega) (fun cap hc1 hc2 => ?_)
  obtain ⟨mm, hmm⟩ : ∃ mm, mm = cap * 3 - (l.map Idx.c).flatten.length := ⟨_, rfl⟩
  rw [← hmm]
  rw [hfl] at hmm
  refine L.loopP (ι := List Idx × Nat × Nat) (fun x => ⟨[(5, aI (x.2.1 : Int)), (6, aI (x.2.2 : Int)), (0, .bsl 1000 0 l.length cap), (1, .fn f [.ptr 1001 0])], [(1000, ⟨81, .r (x.1.map Idx.c).flatten mm⟩), (1001, (Box.mk 36 (.l (s.cs.map .iv))))], []⟩) (fun x => l.length - x.2.2) (fun x => DI p l x.1 x.2.1 x.2.2) (i0 := (l, i0, i0 + 1)) ?_ (.first hbef hx0 hp0) ?_
  · exact Wk.mk' (by intro id h; simp [keys] at h; rcases h with rfl | rfl <;> rfl) (.cons rfl (Sub.refl _) (.cons rfl (Sub.of_eq rfl) (.cons rfl (Sub.refl _) (.cons rfl (Sub.refl _) .nil)))) (.cons rfl rfl (Subs.refl _) (.cons rfl rfl (Subs.refl _) .nil)) .nil
  rintro ⟨cur, i, j⟩ hD K hK
  dsimp only at hD hK ⊢
  have hlt0 := hD.lt
  have hle0 := hD.le
  have hcu := hD.l
  have hkc : ∀ e ∈ cur.map Idx.c, e.length = 3 := by intro e he; obtain ⟨t, _, rfl⟩ := List.mem_map.1 he; rfl
  have hlc : (cur.map Idx.c).length = l.length := by rw [List.length_map, hcu]
  have hic : i < (cur.map Idx.c).length := by rw [hlc]; omega
  cases hx : l[j]? with
  | none =>
    obtain ⟨hcl0, hci⟩ := hD.full hx
    have hcl : (cur.map Idx.c).take i = (l.filter (fun x => !p x)).map Idx.c := by rw [← List.map_take, hcl0]
    have hj := List.getElem?_eq_none_iff.1 hx
    have hlt : decide ((j : Int) < (l.length : Int)) = false := decide_eq_false (by omega)
    generalize hG2 : l.filter (fun x => !p x) = kept at *
    (repeat' (first | (refine LW.is ?_; first | (apply s_vr; exact rfl; apply v_slBl (off' := i * 3) (n' := l.length - i) (cap' := cap - i); exact rfl; exact rfl; omega; omega; omega; omega; omega) | (apply s_clearR (j := i); exact rfl; exact rfl; exact hkc; exact rfl; (rw [hlc]; omega); omega; (rw [hlc]; omega); exact hcl; exact rfl) | (apply s_vr; exact rfl; apply v_slBh (n' := i); exact rfl; exact rfl; omega; omega; omega) | refine s_v ?_ | refine s_m ?_ | refine s_nil ?_ | refine s_gd ?_ | (refine s_gsplit rfl rfl rfl (fun hb => ?_) (fun hb => ?_) <;> refine fct hb (fun hp => ?_))) | (refine DR.is ?_; first | (apply d_vr; exact rfl; apply v_slBl (off' := i * 3) (n' := l.length - i) (cap' := cap - i); exact rfl; exact rfl; omega; omega; omega; omega; omega) | (apply d_clearR (j := i); exact rfl; exact rfl; exact hkc; exact rfl; (rw [hlc]; omega); omega; (rw [hlc]; omega); exact hcl; exact rfl) | (apply d_vr; exact rfl; apply v_slBh (n' := i); exact rfl; exact rfl; omega; omega; omega) | refine d_v ?_ | refine d_m ?_ | (apply d_nil; kernel_rfl) | refine d_gd ?_ | (refine d_gsplit rfl rfl rfl (fun hb => ?_) (fun hb => ?_) <;> refine fct hb (fun hp => ?_))) | refine c_go ?_ | refine s_region ?_ | refine d_region ?_ | (refine L.cond rfl (fun hb => ?_) (fun hb => ?_) <;> refine fct hb (fun hp => ?_))))
    have hpos : 0 < i := by rw [← hci]; exact List.length_pos_iff.2 hnk
    have hkk : ∀ e ∈ kept.map Idx.c, e.length = 3 := by intro e he; obtain ⟨t, _, rfl⟩ := List.mem_map.1 he; rfl
    all_goals (apply L.renameR 4 1002 (k := 3) (n := i); exact rfl; exact rfl; exact rfl; exact hkk; (rw [List.length_map]; exact hci); omega; (rw [hlc]; omega))
    all_goals (apply L.ends; exact rfl; exact rfl; exact Sub.of_eq (congrArg (fun z => AV.bsh 1002 0 z 3) hci.symm); exact Wk.mk' (by intro id h; simp [keys] at h; rcases h with rfl | rfl <;> rfl) .nil (.cons rfl rfl (Subs.refl _) (.cons rfl rfl (Subs.refl _) (.cons rfl rfl (Subs.refl _) .nil))) .nil)
  | some y =>
    have hlt' := (List.getElem?_eq_some_iff.1 hx).1
    have hlt : decide ((j : Int) < (l.length : Int)) = true := decide_eq_true (by omega)
    have hcz := hc y (List.mem_of_getElem? hx)
    have g1 : ((j : Nat) : Int) < (l.length : Int) := by omega
    have g4 : 0 + ((j : Nat) : Int).toNat * 3 = j * 3 := by rw [Int.toNat_natCast, Nat.zero_add]
    have h1 : ((i : Nat) : Int) < (l.length : Int) := by omega
    have h4 : 0 + ((i : Nat) : Int).toNat * 3 = i * 3 := by rw [Int.toNat_natCast, Nat.zero_add]
    have g5 : ((Box.mk 81 (.r (cur.map Idx.c).flatten mm)).cs.drop (j * 3)).take 3 = [.iv (S y.n), .iv (S y.tb), .iv (S y.co)] := rowAtM hkc (by rw [List.getElem?_map, hD.at, hx]; rfl)
    cases hq : p y with
    | true =>
      rw [hq] at hcz
      (repeat' (first | (apply s_callFn (f := f) (bxi := [(1001, (Box.mk 36 (.l (s.cs.map .iv))))]); exact rfl; exact hG; exact rfl; exact hcz; exact rfl; exact .cons rfl rfl (Subs.refl _) .nil; exact hmb; exact rfl) | (refine LW.is ?_; first | (apply s_vr; exact rfl; apply v_indexBsl; exact rfl; exact rfl; omega; exact g1; exact g4) | (apply s_vr; exact rfl; apply v_indexBsl; exact rfl; exact rfl; omega; exact h1; exact h4) | (apply s_vr; exact rfl; apply v_loadAP; exact rfl; exact rfl; exact g5; exact rfl) | (apply s_storeR (i := i) (e := y.c) (er := (cur.set i y).map Idx.c); exact rfl; exact rfl; exact rfl; exact rfl; exact rfl; exact rfl; exact hkc; exact rfl; exact hic; exact List.map_set.symm) | refine s_v ?_ | refine s_m ?_ | refine s_nil ?_ | refine s_gd ?_ | (refine s_gsplit rfl rfl rfl (fun hb => ?_) (fun hb => ?_) <;> refine fct hb (fun hp => ?_))) | (refine DR.is ?_; first | (apply d_vr; exact rfl; apply v_indexBsl; exact rfl; exact rfl; omega; exact g1; exact g4) | (apply d_vr; exact rfl; apply v_indexBsl; exact rfl; exact rfl; omega; exact h1; exact h4) | (apply d_vr; exact rfl; apply v_loadAP; exact rfl; exact rfl; exact g5; exact rfl) | (apply d_storeR (i := i) (e := y.c) (er := (cur.set i y).map Idx.c); exact rfl; exact rfl; exact rfl; exact rfl; exact rfl; exact rfl; exact hkc; exact rfl; exact hic; exact List.map_set.symm) | refine d_v ?_ | refine d_m ?_ | (apply d_nil; kernel_rfl) | refine d_gd ?_ | (refine d_gsplit rfl rfl rfl (fun hb => ?_) (fun hb => ?_) <;> refine fct hb (fun hp => ?_))) | refine c_go ?_ | refine s_region ?_ | refine d_region ?_ | (refine L.cond rfl (fun hb => ?_) (fun hb => ?_) <;> refine fct hb (fun hp => ?_))))
      refine hK _ (cur, i, j + 1) (hD.drop hx hq) (by dsimp only; omega) ?_
      exact Wk.mk' (by intro id h; simp [keys] at h; rcases h with rfl | rfl <;> rfl) (.cons rfl (Sub.refl _) (.cons rfl (Sub.refl _) (.cons rfl (Sub.refl _) (.cons rfl (Sub.refl _) .nil)))) (.cons rfl rfl (Subs.refl _) (.cons rfl rfl (Subs.refl _) .nil)) .nil
    | false =>
      rw [hq] at hcz
      (repeat' (first | (apply s_callFn (f := f) (bxi := [(1001, (Box.mk 36 (.l (s.cs.map .iv))))]); exact rfl; exact hG; exact rfl; exact hcz; exact rfl; exact .cons rfl rfl (Subs.refl _) .nil; exact hmb; exact rfl) | (refine LW.is ?_; first | (apply s_vr; exact rfl; apply v_indexBsl; exact rfl; exact rfl; omega; exact g1; exact g4) | (apply s_vr; exact rfl; apply v_indexBsl; exact rfl; exact rfl; omega; exact h1; exact h4) | (apply s_vr; exact rfl; apply v_loadAP; exact rfl; exact rfl; exact g5; exact rfl) | (apply s_storeR (i := i) (e := y.c) (er := (cur.set i y).map Idx.c); exact rfl; exact rfl; exact rfl; exact rfl; exact rfl; exact rfl; exact hkc; exact rfl; exact hic; exact List.map_set.symm) | refine s_v ?_ | refine s_m ?_ | refine s_nil ?_ | refine s_gd ?_ | (refine s_gsplit rfl rfl rfl (fun hb => ?_) (fun hb => ?_) <;> refine fct hb (fun hp => ?_))) | (refine DR.is ?_; first | (apply d_vr; exact rfl; apply v_indexBsl; exact rfl; exact rfl; omega; exact g1; exact g4) | (apply d_vr; exact rfl; apply v_indexBsl; exact rfl; exact rfl; omega; exact h1; exact h4) | (apply d_vr; exact rfl; apply v_loadAP; exact rfl; exact rfl; exact g5; exact rfl) | (apply d_storeR (i := i) (e := y.c) (er := (cur.set i y).map Idx.c); exact rfl; exact rfl; exact rfl; exact rfl; exact rfl; exact rfl; exact hkc; exact rfl; exact hic; exact List.map_set.symm) | refine d_v ?_ | refine d_m ?_ | (apply d_nil; kernel_rfl) | refine d_gd ?_ | (refine d_gsplit rfl rfl rfl (fun hb => ?_) (fun hb => ?_) <;> refine fct hb (fun hp => ?_))) | refine c_go ?_ | refine s_region ?_ | refine d_region ?_ | (refine L.cond rfl (fun hb => ?_) (fun hb => ?_) <;> refine fct hb (fun hp => ?_))))
      refine hK _ (cur.set i y, i + 1, j + 1) (hD.keep hx hq) (by dsimp only; omega) ?_
      exact Wk.mk' (by intro id h; simp [keys] at h; rcases h with rfl | rfl <;> rfl) (.cons rfl (Sub.refl _) (.cons rfl (Sub.refl _) (.cons rfl (Sub.refl _) (.cons rfl (Sub.refl _) .nil)))) (.cons rfl rfl (Subs.refl _) (.cons rfl rfl (Subs.refl _) .nil)) .nil
set_option maxHeartbeats 8000000 in
theorem dfX_none {gs : Globs} {f : FuncId} {s : Stm} [CallTy Tryd.prog f] (p : Idx → Bool) (l : List Idx) (hne : l ≠ []) (hl : l.length ≤ 140737488355328) (hmb : [(1001, (Box.mk 36 (.l (s.cs.map .iv))))].all (fun p => !p.2.cs.isEmpty && AV.mentsIn (keys [(1001, (Box.mk 36 (.l (s.cs.map .iv))))]) p.2.cs) = true)
    (hmx : ([(1000, ⟨81, .r (l.map Idx.c).flatten 0⟩), (1001, (Box.mk 36 (.l (s.cs.map .iv))))] : List (Nat × Box)).all (fun p => !p.2.cs.isEmpty && AV.mentsIn (keys [(1000, ⟨81, .r (l.map Idx.c).flatten 0⟩), (1001, (Box.mk 36 (.l (s.cs.map .iv))))]) p.2.cs) = true)
    (hc : ∀ y ∈ l, CallG gs Tryd.prog f ([.agg [.iv (S y.n), .iv (S y.tb), .iv (S y.co)]] ++ [.ptr 1001 0]) [(1001, (Box.mk 36 (.l (s.cs.map .iv))))] [(1001, (Box.mk 36 (.l (s.cs.map .iv))))] [] (aB (p y))) (hnk : l.filter (fun x => !p x) = [])
    (i0 : Nat) (x0 : Idx) (hbef : ∀ y ∈ l.take i0, p y = false) (hx0 : l[i0]? = some x0) (hp0 : p x0 = true) :
    CallG gs Tryd.prog 68 [.bsh 1000 0 l.length 3, .fn f [.ptr 1001 0]] [(1000, ⟨81, .r (l.map Idx.c).flatten 0⟩), (1001, (Box.mk 36 (.l (s.cs.map .iv))))] [(1000, ⟨81, .l []⟩), (1001, (Box.mk 36 (.l (s.cs.map .iv))))] [] (.iv (.sl [])) := by
  refine CallG.intro _ Tryd.func68 rfl Tryd.ntmps68 rfl (fun w0 E0 hG => ?_)
  have hk : ∀ e ∈ l.map Idx.c, e.length = 3 := by intro e he; obtain ⟨t, _, rfl⟩ := List.mem_map.1 he; rfl
  have hfl : (l.map Idx.c).flatten.length = l.length * 3 := by rw [flatten_len _ hk, List.length_map]
  have hfne : (l.map Idx.c).flatten ≠ [] := flat_ne hk (by decide) (by simpa using hne)
  have kx := ixX_any (gs := gs) (f := f) (b := (Box.mk 36 (.l (s.cs.map .iv)))) p l hne hl hmb hc
  rw [idx_at hbef hx0 hp0] at kx
  have hi0 := (List.getElem?_eq_some_iff.1 hx0).1
  have he : ((i0 : Int) == -1) = false := beq_eq_false_iff_ne.2 (by omega)
  (repeat' (first | (apply s_callX (bxi := [(1000, ⟨81, .r (l.map Idx.c).flatten 0⟩), (1001, (Box.mk 36 (.l (s.cs.map .iv))))]); exact rfl; exact hG; exact kx; exact rfl; exact .cons rfl rfl (Subs.refl _) (.cons rfl rfl (Subs.refl _) .nil); exact hmx; exact rfl) | (refine LW.is ?_; first | refine s_v ?_ | refine s_m ?_ | refine s_nil ?_ | refine s_gd ?_ | (refine s_gsplit rfl rfl rfl (fun hb => ?_) (fun hb => ?_) <;> refine fct hb (fun hp => ?_))) | (refine DR.is ?_; first | refine d_v ?_ | refine d_m ?_ | (apply d_nil; kernel_rfl) | refine d_gd ?_ | (refine d_gsplit rfl rfl rfl (fun hb => ?_) (fun hb => ?_) <;> refine fct hb (fun hp => ?_))) | refine c_go ?_ | refine s_region ?_ | refine d_region ?_ | (refine L.cond rfl (fun hb => ?_) (fun hb => ?_) <;> refine fct hb (fun hp => ?_))))
  refine L.openRow 0 rfl rfl (.inl hfne) (by omega) (fun cap hc1 hc2 => ?_)
  obtain ⟨mm, hmm⟩ : ∃ mm, mm = cap * 3 - (l.map Idx.c).flatten.length := ⟨_, rfl⟩
  rw [← hmm]
  rw [hfl] at hmm
  refine L.loopP (ι := List Idx × Nat × Nat) (fun x => ⟨[(5, aI (x.2.1 : Int)), (6, aI (x.2.2 : Int)), (0, .bsl 1000 0 l.length cap), (1, .fn f [.ptr 1001 0])], [(1000, ⟨81, .r (x.1.map Idx.c).flatten mm⟩), (1001, (Box.mk 36 (.l (s.cs.map .iv))))], []⟩) (fun x => l.length - x.2.2) (fun x => DI p l x.1 x.2.1 x.2.2) (i0 := (l, i0, i0 + 1)) ?_ (.first hbef hx0 hp0) ?_
  · exact Wk.mk' (by intro id h; simp [keys] at h; rcases h with rfl | rfl <;> rfl) (.cons rfl (Sub.refl _) (.cons rfl (Sub.of_eq rfl) (.cons rfl (Sub.refl _) (.cons rfl (Sub.refl _) .nil)))) (.cons rfl rfl (Subs.refl _) (.cons rfl rfl (Subs.refl _) .nil)) .nil
  rintro ⟨cur, i, j⟩ hD K hK
  dsimp only at hD hK ⊢
  have hlt0 := hD.lt
  have hle0 := hD.le
  have hcu := hD.l
  have hkc : ∀ e ∈ cur.map Idx.c, e.length = 3 := by intro e he; obtain ⟨t, _, rfl⟩ := List.mem_map.1 he; rfl
  have hlc : (cur.map Idx.c).length = l.length := by rw [List.length_map, hcu]
  have hic : i < (cur.map Idx.c).length := by rw [hlc]; omega
  cases hx : l[j]? with
  | none =>
    obtain ⟨hcl0, hci⟩ := hD.full hx
    have hcl : (cur.map Idx.c).take i = (l.filter (fun x => !p x)).map Idx.c := by rw [← List.map_take, hcl0]
    have hj := List.getElem?_eq_none_iff.1 hx
    have hlt : decide ((j : Int) < (l.length : Int)) = false := decide_eq_false (by omega)
    generalize hG2 : l.filter (fun x => !p x) = kept at *
    (repeat' (first | (refine LW.is ?_; first | (apply s_vr; exact rfl; apply v_slBl (off' := i * 3) (n' := l.length - i) (cap' := cap - i); exact rfl; exact rfl; omega; omega; omega; omega; omega) | (apply s_clearR (j := i); exact rfl; exact rfl; exact hkc; exact rfl; (rw [hlc]; omega); omega; (rw [hlc]; omega); exact hcl; exact rfl) | (apply s_vr; exact rfl; apply v_slBh (n' := i); exact rfl; exact rfl; omega; omega; omega) | refine s_v ?_ | refine s_m ?_ | refine s_nil ?_ | refine s_gd ?_ | (refine s_gsplit rfl rfl rfl (fun hb => ?_) (fun hb => ?_) <;> refine fct hb (fun hp => ?_))) | (refine DR.is ?_; first | (apply d_vr; exact rfl; apply v_slBl (off' := i * 3) (n' := l.length - i) (cap' := cap - i); exact rfl; exact rfl; omega; omega; omega; omega; omega) | (apply d_clearR (j := i); exact rfl; exact rfl; exact hkc; exact rfl; (rw [hlc]; omega); omega; (rw [hlc]; omega); exact hcl; exact rfl) | (apply d_vr; exact rfl; apply v_slBh (n' := i); exact rfl; exact rfl; omega; omega; omega) | refine d_v ?_ | refine d_m ?_ | (apply d_nil; kernel_rfl) | refine d_gd ?_ | (refine d_gsplit rfl rfl rfl (fun hb => ?_) (fun hb => ?_) <;> refine fct hb (fun hp => ?_))) | refine c_go ?_ | refine s_region ?_ | refine d_region ?_ | (refine L.cond rfl (fun hb => ?_) (fun hb => ?_) <;> refine fct hb (fun hp => ?_))))
    subst hnk
    all_goals refine L.kill 1000 rfl (row_ne (.inr (by rw [hlc]; omega))) ?_
    all_goals (apply L.ends; exact rfl; exact rfl; exact hci ▸ Sub.bsl0 _ _ _; exact Wk.mk' (by intro id h; simp [keys] at h; rcases h with rfl | rfl <;> rfl) .nil (.cons rfl rfl (Subs.refl _) (.cons rfl rfl (Subs.refl _) .nil)) .nil)
  | some y =>
    have hlt' := (List.getElem?_eq_some_iff.1 hx).1
    have hlt : decide ((j : Int) < (l.length : Int)) = true := decide_eq_true (by omega)
    have hcz := hc y (List.mem_of_getElem? hx)
    have g1 : ((j : Nat) : Int) < (l.length : Int) := by omega
    have g4 : 0 + ((j : Nat) : Int).toNat * 3 = j * 3 := by rw [Int.toNat_natCast, Nat.zero_add]
    have h1 : ((i : Nat) : Int) < (l.length : Int) := by omega
    have h4 : 0 + ((i : Nat) : Int).toNat * 3 = i * 3 := by rw [Int.toNat_natCast, Nat.zero_add]
    have g5 : ((Box.mk 81 (.r (cur.map Idx.c).flatten mm)).cs.drop (j * 3)).take 3 = [.iv (S y.n), .iv (S y.tb), .iv (S y.co)] := rowAtM hkc (by rw [List.getElem?_map, hD.at, hx]; rfl)
    cases hq : p y with
    | true =>
      rw [hq] at hcz
      (repeat' (first | (apply s_callFn (f := f) (bxi := [(1001, (Box.mk 36 (.l (s.cs.map .iv))))]); exact rfl; exact hG; exact rfl; exact hcz; exact rfl; exact .cons rfl rfl (Subs.refl _) .nil; exact hmb; exact rfl) | (refine LW.is ?_; first | (apply s_vr; exact rfl; apply v_indexBsl; exact rfl; exact rfl; omega; exact g1; exact g4) | (apply s_vr; exact rfl; apply v_indexBsl; exact rfl; exact rfl; omega; exact h1; exact h4) | (apply s_vr; exact rfl; apply v_loadAP; exact rfl; exact rfl; exact g5; exact rfl) | (apply s_storeR (i := i) (e := y.c) (er := (cur.set i y).map Idx.c); exact rfl; exact rfl; exact rfl; exact rfl; exact rfl; exact rfl; exact hkc; exact rfl; exact hic; exact List.map_set.symm) | refine s_v ?_ | refine s_m ?_ | refine s_nil ?_ | refine s_gd ?_ | (refine s_gsplit rfl rfl rfl (fun hb => ?_) (fun hb => ?_) <;> refine fct hb (fun hp => ?_))) | (refine DR.is ?_; first | (apply d_vr; exact rfl; apply v_indexBsl; exact rfl; exact rfl; omega; exact g1; exact g4) | (apply d_vr; exact rfl; apply v_indexBsl; exact rfl; exact rfl; omega; exact h1; exact h4) | (apply d_vr; exact rfl; apply v_loadAP; exact rfl; exact rfl; exact g5; exact rfl) | (apply d_storeR (i := i) (e := y.c) (er := (cur.set i y).map Idx.c); exact rfl; exact rfl; exact rfl; exact rfl; exact rfl; exact rfl; exact hkc; exact rfl; exact hic; exact List.map_set.symm) | refine d_v ?_ | refine d_m ?_ | (apply d_nil; kernel_rfl) | refine d_gd ?_ | (refine d_gsplit rfl rfl rfl (fun hb => ?_) (fun hb => ?_) <;> refine fct hb (fun hp => ?_))) | refine c_go ?_ | refine s_region ?_ | refine d_region ?_ | (refine L.cond rfl (fun hb => ?_) (fun hb => ?_) <;> refine fct hb (fun hp => ?_))))
      refine hK _ (cur, i, j + 1) (hD.drop hx hq) (by dsimp only; omega) ?_
      exact Wk.mk' (by intro id h; simp [keys] at h; rcases h with rfl | rfl <;> rfl) (.cons rfl (Sub.refl _) (.cons rfl (Sub.refl _) (.cons rfl (Sub.refl _) (.cons rfl (Sub.refl _) .nil)))) (.cons rfl rfl (Subs.refl _) (.cons rfl rfl (Subs.refl _) .nil)) .nil
    | false =>
      rw [hq] at hcz
      (repeat' (first | (apply s_callFn (f := f) (bxi := [(1001, (Box.mk 36 (.l (s.cs.map .iv))))]); exact rfl; exact hG; exact rfl; exact hcz; exact rfl; exact .cons rfl rfl (Subs.refl _) .nil; exact hmb; exact rfl) | (refine LW.is ?_; first | (apply s_vr; exact rfl; apply v_indexBsl; exact rfl; exact rfl; omega; exact g1; exact g4) | (apply s_vr; exact rfl; apply v_indexBsl; exact rfl; exact rfl; omega; exact h1; exact h4) | (apply s_vr; exact rfl; apply v_loadAP; exact rfl; exact rfl; exact g5; exact rfl) | (apply s_storeR (i := i) (e := y.c) (er := (cur.set i y).map Idx.c); exact rfl; exact rfl; exact rfl; exact rfl; exact rfl; exact rfl; exact hkc; exact rfl; exact hic; exact List.map_set.symm) | refine s_v ?_ | refine s_m ?_ | refine s_nil ?_ | refine s_gd ?_ | (refine s_gsplit rfl rfl rfl (fun hb => ?_) (fun hb => ?_) <;> refine fct hb (fun hp => ?_))) | (refine DR.is ?_; first | (apply d_vr; exact rfl; apply v_indexBsl; exact rfl; exact rfl; omega; exact g1; exact g4) | (apply d_vr; exact rfl; apply v_indexBsl; exact rfl; exact rfl; omega; exact h1; exact h4) | (apply d_vr; exact rfl; apply v_loadAP; exact rfl; exact rfl; exact g5; exact rfl) | (apply d_storeR (i := i) (e := y.c) (er := (cur.set i y).map Idx.c); exact rfl; exact rfl; exact rfl; exact rfl; exact rfl; exact rfl; exact hkc; exact rfl; exact hic; exact List.map_set.symm) | refine d_v ?_ | refine d_m ?_ | (apply d_nil; kernel_rfl) | refine d_gd ?_ | (refine d_gsplit rfl rfl rfl (fun hb => ?_) (fun hb => ?_) <;> refine fct hb (fun hp => ?_))) | refine c_go ?_ | refine s_region ?_ | refine d_region ?_ | (refine L.cond rfl (fun hb => ?_) (fun hb => ?_) <;> refine fct hb (fun hp => ?_))))
      refine hK _ (cur.set i y, i + 1, j + 1) (hD.keep hx hq) (by dsimp only; omega) ?_
      exact Wk.mk' (by intro id h; simp [keys] at h; rcases h with rfl | rfl <;> rfl) (.cons rfl (Sub.refl _) (.cons rfl (Sub.refl _) (.cons rfl (Sub.refl _) (.cons rfl (Sub.refl _) .nil)))) (.cons rfl rfl (Subs.refl _) (.cons rfl rfl (Subs.refl _) .nil)) .nil
end Go.Proofs.YthkobnpogigkiaaDoor
/- Tables and indexes: what DeleteFunc computes where nothing is hit, and where there is nothing. Conditions: how much there is of what comes in. -/
namespace Go.Proofs.YthkobnpogigkiaaDoor
open Go.Abs
set_option maxRecDepth 100000
attribute [local irreducible] L Code.wp bodyPost Exit.then Exit.inBlock
set_option linter.unusedVariables false
set_option linter.unusedSimpArgs false
theorem first_hit {α : Type} {p : α → Bool} : ∀ {l : List α}, (¬ ∀ y ∈ l, p y = false) → ∃ i x, (∀ y ∈ l.take i, p y = false) ∧ l[i]? = some x ∧ p x = true
  | [], h => absurd (fun y hy => by cases hy) h
  | x :: l, h => by
    cases hp : p x with
    | true => exact ⟨0, x, by simp, rfl, hp⟩
    | false =>
      obtain ⟨i, z, h1, h2, h3⟩ := first_hit (l := l) (fun hn => h (fun y hy => by
        rcases List.mem_cons.1 hy with rfl | hy
        · exact hp
        · exact hn y hy))
      exact ⟨i + 1, z, fun y hy => by
        rw [List.take_succ_cons] at hy
        rcases List.mem_cons.1 hy with rfl | hy
        · exact hp
        · exact h1 y hy, by simpa using h2, h3⟩
set_option maxHeartbeats 8000000 in
theorem dfT_all {gs : Globs} {f : FuncId} {s : Stm} [CallTy Tryd.prog f] (p : Tab → Bool) (l : List Tab) (hne : l ≠ []) (hl : l.length ≤ 140737488355328) (hmb : [(1001, (Box.mk 36 (.l (s.cs.map .iv))))].all (fun p => !p.2.cs.isEmpty && AV.mentsIn (keys [(1001, (Box.mk 36 (.l (s.cs.map .iv))))]) p.2.cs) = true)
    (hmx : ([(1000, ⟨43, .r (l.map Tab.c).flatten 0⟩), (1001, (Box.mk 36 (.l (s.cs.map .iv))))] : List (Nat × Box)).all (fun p => !p.2.cs.isEmpty && AV.mentsIn (keys [(1000, ⟨43, .r (l.map Tab.c).flatten 0⟩), (1001, (Box.mk 36 (.l (s.cs.map .iv))))]) p.2.cs) = true)
    (hc : ∀ y ∈ l, CallG gs Tryd.prog f ([.agg [.iv (S y.n), .iv (.sl (y.cols.map Col.c))]] ++ [.ptr 1001 0]) [(1001, (Box.mk 36 (.l (s.cs.map .iv))))] [(1001, (Box.mk 36 (.l (s.cs.map .iv))))] [] (aB (p y))) (hno : ∀ y ∈ l, p y = false) :
    CallG gs Tryd.prog 66 [.bsh 1000 0 l.length 2, .fn f [.ptr 1001 0]] [(1000, ⟨43, .r (l.map Tab.c).flatten 0⟩), (1001, (Box.mk 36 (.l (s.cs.map .iv))))] [(1002, ⟨43, .r (l.map Tab.c).flatten 0⟩), (1000, ⟨43, .l []⟩), (1001, (Box.mk 36 (.l (s.cs.map .iv))))] [] (.bsh 1002 0 l.length 2) := by
  have hk : ∀ e ∈ l.map Tab.c, e.length = 2 := by intro e he; obtain ⟨t, _, rfl⟩ := List.mem_map.1 he; rfl
  have hfl : (l.map Tab.c).flatten.length = l.length * 2 := by rw [flatten_len _ hk, List.length_map]
  have hfne : (l.map Tab.c).flatten ≠ [] := flat_ne hk (by decide) (by simpa using hne)
  have hpos : 0 < l.length := List.length_pos_iff.2 hne
  refine CallG.intro _ Tryd.func66 rfl Tryd.ntmps66 rfl (fun w0 E0 hG => ?_)
  have kx := ixT_any (gs := gs) (f := f) (b := (Box.mk 36 (.l (s.cs.map .iv)))) p l hne hl hmb hc
  rw [idx_no hno] at kx
  (repeat' (first | (apply s_callX (bxi := [(1000, ⟨43, .r (l.map Tab.c).flatten 0⟩), (1001, (Box.mk 36 (.l (s.cs.map .iv))))]); exact rfl; exact hG; exact kx; exact rfl; exact .cons rfl rfl (Subs.refl _) (.cons rfl rfl (Subs.refl _) .nil); exact hmx; exact rfl) | (refine LW.is ?_; first | refine s_v ?_ | refine s_m ?_ | refine s_nil ?_ | refine s_gd ?_ | (refine s_gsplit rfl rfl rfl (fun hb => ?_) (fun hb => ?_) <;> refine fct hb (fun hp => ?_))) | (refine DR.is ?_; first | refine d_v ?_ | refine d_m ?_ | (apply d_nil; kernel_rfl) | refine d_gd ?_ | (refine d_gsplit rfl rfl rfl (fun hb => ?_) (fun hb => ?_) <;> refine fct hb (fun hp => ?_))) | refine c_go ?_ | refine s_region ?_ | refine d_region ?_ | (refine L.cond rfl (fun hb => ?_) (fun hb => ?_) <;> refine fct hb (fun hp => ?_))))
  all_goals (refine L.openRow 4 (id := 1000) (n := l.length) (k := 2) rfl rfl (.inl hfne) (by omega) (fun cap hc1 hc2 => ?_))
  all_goals (apply L.renameR 4 1002 (k := 2) (n := l.length); exact rfl; exact rfl; exact rfl; exact hk; exact List.length_map _; omega; (rw [hfl]; omega))
  all_goals (apply L.ends; exact rfl; exact rfl; exact Sub.refl _; exact Wk.mk' (by intro id h; simp [keys] at h; rcases h with rfl | rfl <;> rfl) .nil (.cons rfl rfl (Subs.refl _) (.cons rfl rfl (Subs.refl _) (.cons rfl rfl (Subs.refl _) .nil))) .nil)
set_option maxHeartbeats 4000000 in
theorem dfT_kept {gs : Globs} {f : FuncId} {s : Stm} [CallTy Tryd.prog f] (p : Tab → Bool) (l : List Tab) (hne : l ≠ []) (hl : l.length ≤ 140737488355328) (hmb : [(1001, (Box.mk 36 (.l (s.cs.map .iv))))].all (fun p => !p.2.cs.isEmpty && AV.mentsIn (keys [(1001, (Box.mk 36 (.l (s.cs.map .iv))))]) p.2.cs) = true)
    (hmx : ([(1000, ⟨43, .r (l.map Tab.c).flatten 0⟩), (1001, (Box.mk 36 (.l (s.cs.map .iv))))] : List (Nat × Box)).all (fun p => !p.2.cs.isEmpty && AV.mentsIn (keys [(1000, ⟨43, .r (l.map Tab.c).flatten 0⟩), (1001, (Box.mk 36 (.l (s.cs.map .iv))))]) p.2.cs) = true)
    (hc : ∀ y ∈ l, CallG gs Tryd.prog f ([.agg [.iv (S y.n), .iv (.sl (y.cols.map Col.c))]] ++ [.ptr 1001 0]) [(1001, (Box.mk 36 (.l (s.cs.map .iv))))] [(1001, (Box.mk 36 (.l (s.cs.map .iv))))] [] (aB (p y))) (hnk : l.filter (fun x => !p x) ≠ []) :
    CallG gs Tryd.prog 66 [.bsh 1000 0 l.length 2, .fn f [.ptr 1001 0]] [(1000, ⟨43, .r (l.map Tab.c).flatten 0⟩), (1001, (Box.mk 36 (.l (s.cs.map .iv))))] [(1002, ⟨43, .r ((l.filter (fun x => !p x)).map Tab.c).flatten 0⟩), (1000, ⟨43, .l []⟩), (1001, (Box.mk 36 (.l (s.cs.map .iv))))] [] (.bsh 1002 0 (l.filter (fun x => !p x)).length 2) := by
  by_cases hno : ∀ y ∈ l, p y = false
  · have e : l.filter (fun x => !p x) = l := List.filter_eq_self.2 (fun y hy => by rw [hno y hy]; rfl)
    rw [e]
    exact dfT_all p l hne hl hmb hmx hc hno
  · obtain ⟨i, x, h1, h2, h3⟩ := first_hit hno
    exact dfT_some p l hne hl hmb hmx hc hnk i x h1 h2 h3
set_option maxHeartbeats 8000000 in
theorem dfX_all {gs : Globs} {f : FuncId} {s : Stm} [CallTy Tryd.prog f] (p : Idx → Bool) (l : List Idx) (hne : l ≠ []) (hl : l.length ≤ 140737488355328) (hmb : [(1001, (Box.mk 36 (.l (s.cs.map .iv))))].all (fun p => !p.2.cs.isEmpty && AV.mentsIn (keys [(1001, (Box.mk 36 (.l (s.cs.map .iv))))]) p.2.cs) = true)
    (hmx : ([(1000, ⟨81, .r (l.map Idx.c).flatten 0⟩), (1001, (Box.mk 36 (.l (s.cs.map .iv))))] : List (Nat × Box)).all (fun p => !p.2.cs.isEmpty && AV.mentsIn (keys [(1000, ⟨81, .r (l.map Idx.c).flatten 0⟩), (1001, (Box.mk 36 (.l (s.cs.map .iv))))]) p.2.cs) = true)
    (hc : ∀ y ∈ l, CallG gs Tryd.prog f ([.agg [.iv (S y.n), .iv (S y.tb), .iv (S y.co)]] ++ [.ptr 1001 0]) [(1001, (Box.mk 36 (.l (s.cs.map .iv))))] [(1001, (Box.mk 36 (.l (s.cs.map .iv))))] [] (aB (p y))) (hno : ∀ y ∈ l, p y = false) :
    CallG gs Tryd.prog 68 [.bsh 1000 0 l.length 3, .fn f [.ptr 1001 0]] [(1000, ⟨81, .r (l.map Idx.c).flatten 0⟩), (1001, (Box.mk 36 (.l (s.cs.map .iv))))] [(1002, ⟨81, .r (l.map Idx.c).flatten 0⟩), (1000, ⟨81, .l []⟩), (1001, (Box.mk 36 (.l (s.cs.map .iv))))] [] (.bsh 1002 0 l.length 3) := by
  have hk : ∀ e ∈ l.map Idx.c, e.length = 3 := by intro e he; obtain ⟨t, _, rfl⟩ := List.mem_map.1 he; rfl
  have hfl : (l.map Idx.c).flatten.length = l.length * 3 := by rw [flatten_len _ hk, List.length_map]
  have hfne : (l.map Idx.c).flatten ≠ [] := flat_ne hk (by decide) (by simpa using hne)
  have hpos : 0 < l.length := List.length_pos_iff.2 hne
  refine CallG.intro _ Tryd.func68 rfl Tryd.ntmps68 rfl (fun w0 E0 hG => ?_)
  have kx := ixX_any (gs := gs) (f := f) (b := (Box.mk 36 (.l (s.cs.map .iv)))) p l hne hl hmb hc
  rw [idx_no hno] at kx
  (repeat' (first | (apply s_callX (bxi := [(1000, ⟨81, .r (l.map Idx.c).flatten 0⟩), (1001, (Box.mk 36 (.l (s.cs.map .iv))))]); exact rfl; exact hG; exact kx; exact rfl; exact .cons rfl rfl (Subs.refl _) (.cons rfl rfl (Subs.refl _) .nil); exact hmx; exact rfl) | (refine LW.is ?_; first | refine s_v ?_ | refine s_m ?_ | refine s_nil ?_ | refine s_gd ?_ | (refine s_gsplit rfl rfl rfl (fun hb => ?_) (fun hb => ?_) <;> refine fct hb (fun hp => ?_))) | (refine DR.is ?_; first | refine d_v ?_ | refine d_m ?_ | (apply d_nil; kernel_rfl) | refine d_gd ?_ | (refine d_gsplit rfl rfl rfl (fun hb => ?_) (fun hb => ?_) <;> refine fct hb (fun hp => ?_))) | refine c_go ?_ | refine s_region ?_ | refine d_region ?_ | (refine L.cond rfl (fun hb => ?_) (fun hb => ?_) <;> refine fct hb (fun hp => ?_))))
  all_goals (refine L.openRow 4 (id := 1000) (n := l.length) (k := 3) rfl rfl (.inl hfne) (by omega) (fun cap hc1 hc2 => ?_))
  all_goals (apply L.renameR 4 1002 (k := 3) (n := l.length); exact rfl; exact rfl; exact rfl; exact hk; exact List.length_map _; omega; (rw [hfl]; omega))
  all_goals (apply L.ends; exact rfl; exact rfl; exact Sub.refl _; exact Wk.mk' (by intro id h; simp [keys] at h; rcases h with rfl | rfl <;> rfl) .nil (.cons rfl rfl (Subs.refl _) (.cons rfl rfl (Subs.refl _) (.cons rfl rfl (Subs.refl _) .nil))) .nil)
set_option maxHeartbeats 4000000 in
theorem ixX_emp {gs : Globs} {f : FuncId} {s : Stm} :
    CallG gs Tryd.prog 90 [.iv (.sl []), .fn f [.ptr 1001 0]] [(1001, (Box.mk 36 (.l (s.cs.map .iv))))] [(1001, (Box.mk 36 (.l (s.cs.map .iv))))] [] (aI (-1)) := by
  refine CallG.intro _ Tryd.func90 rfl Tryd.ntmps90 rfl (fun w0 E0 hG => ?_)
  (repeat' (first | (refine LW.is ?_; first | refine s_v ?_ | refine s_m ?_ | refine s_nil ?_ | refine s_gd ?_ | (refine s_gsplit rfl rfl rfl (fun hb => ?_) (fun hb => ?_) <;> refine fct hb (fun hp => ?_))) | (refine DR.is ?_; first | refine d_v ?_ | refine d_m ?_ | (apply d_nil; kernel_rfl) | refine d_gd ?_ | (refine d_gsplit rfl rfl rfl (fun hb => ?_) (fun hb => ?_) <;> refine fct hb (fun hp => ?_))) | refine c_go ?_ | refine s_region ?_ | refine d_region ?_ | (refine L.cond rfl (fun hb => ?_) (fun hb => ?_) <;> refine fct hb (fun hp => ?_))))
  refine L.loopP (ι := Nat) (fun i => ⟨[(8, aI 0), (7, aI 0), (0, .iv (.sl [])), (1, .fn f [.ptr 1001 0])], [(1001, (Box.mk 36 (.l (s.cs.map .iv))))], []⟩) (fun i => i) (fun i => True) (i0 := 0) ?_ trivial ?_
  · exact Wk.mk' keys_some (.cons rfl (Sub.of_eq rfl) (.cons rfl (Sub.of_eq rfl) (.cons rfl (Sub.refl _) (.cons rfl (Sub.refl _) .nil)))) (.cons rfl rfl (Subs.refl _) .nil) .nil
  intro i _ K hK
  (repeat' (first | (refine LW.is ?_; first | refine s_v ?_ | refine s_m ?_ | refine s_nil ?_ | refine s_gd ?_ | (refine s_gsplit rfl rfl rfl (fun hb => ?_) (fun hb => ?_) <;> refine fct hb (fun hp => ?_))) | (refine DR.is ?_; first | refine d_v ?_ | refine d_m ?_ | (apply d_nil; kernel_rfl) | refine d_gd ?_ | (refine d_gsplit rfl rfl rfl (fun hb => ?_) (fun hb => ?_) <;> refine fct hb (fun hp => ?_))) | refine c_go ?_ | refine s_region ?_ | refine d_region ?_ | (refine L.cond rfl (fun hb => ?_) (fun hb => ?_) <;> refine fct hb (fun hp => ?_))))
  all_goals (apply L.ends; exact rfl; exact rfl; exact Sub.of_eq rfl; exact Wk.mk' keys_some .nil (.cons rfl rfl (Subs.refl _) .nil) .nil)
set_option maxHeartbeats 4000000 in
theorem dfX_emp {gs : Globs} {f : FuncId} {s : Stm} :
    CallG gs Tryd.prog 68 [.iv (.sl []), .fn f [.ptr 1001 0]] [(1001, (Box.mk 36 (.l (s.cs.map .iv))))] [(1001, (Box.mk 36 (.l (s.cs.map .iv))))] [] (.iv (.sl [])) := by
  refine CallG.intro _ Tryd.func68 rfl Tryd.ntmps68 rfl (fun w0 E0 hG => ?_)
  have hz : ([(1001, (Box.mk 36 (.l (s.cs.map .iv))))] : List (Nat × Box)).all (fun p => !p.2.cs.isEmpty && AV.mentsIn (keys [(1001, (Box.mk 36 (.l (s.cs.map .iv))))]) p.2.cs) = true := by first | rfl | kernel_rfl | (simp [keys, Stm.cs, AV.mentsIn, AV.mentIn]; done)
  have kx := ixX_emp (gs := gs) (f := f) (s := s)
  (repeat' (first | (apply s_callX (bxi := [(1001, (Box.mk 36 (.l (s.cs.map .iv))))]); exact rfl; exact hG; exact kx; exact rfl; exact .cons rfl rfl (Subs.refl _) .nil; exact hz; exact rfl) | (refine LW.is ?_; first | refine s_v ?_ | refine s_m ?_ | refine s_nil ?_ | refine s_gd ?_ | (refine s_gsplit rfl rfl rfl (fun hb => ?_) (fun hb => ?_) <;> refine fct hb (fun hp => ?_))) | (refine DR.is ?_; first | refine d_v ?_ | refine d_m ?_ | (apply d_nil; kernel_rfl) | refine d_gd ?_ | (refine d_gsplit rfl rfl rfl (fun hb => ?_) (fun hb => ?_) <;> refine fct hb (fun hp => ?_))) | refine c_go ?_ | refine s_region ?_ | refine d_region ?_ | (refine L.cond rfl (fun hb => ?_) (fun hb => ?_) <;> refine fct hb (fun hp => ?_))))
  all_goals (apply L.ends; exact rfl; exact rfl; exact Sub.refl _; exact Wk.mk' keys_some .nil (.cons rfl rfl (Subs.refl _) .nil) .nil)
set_option maxHeartbeats 4000000 in
theorem dfX_kept {gs : Globs} {f : FuncId} {s : Stm} [CallTy Tryd.prog f] (p : Idx → Bool) (l : List Idx) (hne : l ≠ []) (hl : l.length ≤ 140737488355328) (hmb : [(1001, (Box.mk 36 (.l (s.cs.map .iv))))].all (fun p => !p.2.cs.isEmpty && AV.mentsIn (keys [(1001, (Box.mk 36 (.l (s.cs.map .iv))))]) p.2.cs) = true)
    (hmx : ([(1000, ⟨81, .r (l.map Idx.c).flatten 0⟩), (1001, (Box.mk 36 (.l (s.cs.map .iv))))] : List (Nat × Box)).all (fun p => !p.2.cs.isEmpty && AV.mentsIn (keys [(1000, ⟨81, .r (l.map Idx.c).flatten 0⟩), (1001, (Box.mk 36 (.l (s.cs.map .iv))))]) p.2.cs) = true)
    (hc : ∀ y ∈ l, CallG gs Tryd.prog f ([.agg [.iv (S y.n), .iv (S y.tb), .iv (S y.co)]] ++ [.ptr 1001 0]) [(1001, (Box.mk 36 (.l (s.cs.map .iv))))] [(1001, (Box.mk 36 (.l (s.cs.map .iv))))] [] (aB (p y))) (hnk : l.filter (fun x => !p x) ≠ []) :
    CallG gs Tryd.prog 68 [.bsh 1000 0 l.length 3, .fn f [.ptr 1001 0]] [(1000, ⟨81, .r (l.map Idx.c).flatten 0⟩), (1001, (Box.mk 36 (.l (s.cs.map .iv))))] [(1002, ⟨81, .r ((l.filter (fun x => !p x)).map Idx.c).flatten 0⟩), (1000, ⟨81, .l []⟩), (1001, (Box.mk 36 (.l (s.cs.map .iv))))] [] (.bsh 1002 0 (l.filter (fun x => !p x)).length 3) := by
  by_cases hno : ∀ y ∈ l, p y = false
  · have e : l.filter (fun x => !p x) = l := List.filter_eq_self.2 (fun y hy => by rw [hno y hy]; rfl)
    rw [e]
    exact dfX_all p l hne hl hmb hmx hc hno
  · obtain ⟨i, x, h1, h2, h3⟩ := first_hit hno
    exact dfX_some p l hne hl hmb hmx hc hnk i x h1 h2 h3
end Go.Proofs.YthkobnpogigkiaaDoor
/- A catalog behind a command: what With computes. Conditions: the names rise; how much there is of what comes in. -/
namespace Go.Abs
set_option linter.unusedVariables false
section
variable {P : Program} {c : Ctx} {st : St} {ops : Array Oper} {Q : Exit → Act → World → Prop} {rest : List Oper} {o : Oper}
theorem L.callWG (N : List Nat) {gs : Globs} {f : FuncId} {args : Array Operand} {ats : Array TypeId} {avs : List AV} {bxi bxo : List (Nat × Box)} {res : AV} {d : Nat} (hg : o.guard = none) (hd : o.dst = some d) (hlt : Nat.ble (d + 1) c.nt = true) (hG : Glob gs c.E0 c.w0)
    (ho : o.op = .call { callee := .value (.func f), args := args, argTypes := ats }) (hok : callOk P f = true) (hc : CallG gs P f avs bxi bxo [] res) (ha : Subs (args.toList.map st.ev) avs)
    (hbi : WkB st.bx bxi) (hN : N.all (fun id => st.fresh id) = true) (hbo : boOk N bxi bxo = true) (hmb : bxo.all (fun p => AV.mentsIn (N ++ keys bxi) p.2.cs) = true) (hmr : AV.mentIn (N ++ keys bxi) res = true)
    (h : L c ⟨(d, res) :: st.fr, bxo ++ st.bx, st.tk⟩ (wpList P ops Q rest)) : L c st (wpList P ops Q (o :: rest)) :=
  L.enterG N hg hd hlt hG (fun E a w hi => by
    refine ⟨args.toList.map a.eval, ?_, (hi.evs args).sub ha⟩
    have hargs : (args.toList.map a.eval).toArray = args.map a.eval := by apply Array.ext'; simp
    rw [hargs]
    simp [execOp, ho, resolve, Act.eval, Deferred.ofValue, invoke, run_callOk hok]) hc hbi hN hbo rfl hmb hmr h
theorem s_callW (N : List Nat) {fr : List (Nat × AV)} {bx : List (Nat × Box)} {tk : List (Nat × Tok)} {d : Nat} {ty : TypeId} {pos : String} {aft : Array Edge} {gs : Globs} {f : FuncId} {args : Array Operand} {ats : Array TypeId} {avs : List AV} {bxi bxo : List (Nat × Box)} {res : AV} (hlt : Nat.ble (d + 1) c.nt = true) (hG : Glob gs c.E0 c.w0) [hok : CallTy P f]
    (hc : CallG gs P f avs bxi bxo [] res) (ha : Subs (args.toList.map (St.ev ⟨fr, bx, tk⟩)) avs) (hbi : WkB bx bxi) (hN : N.all (fun id => St.fresh id ⟨fr, bx, tk⟩) = true) (hbo : boOk N bxi bxo = true) (hmb : bxo.all (fun p => AV.mentsIn (N ++ keys bxi) p.2.cs) = true) (hmr : AV.mentIn (N ++ keys bxi) res = true)
    (h : LW P c ⟨(d, res) :: fr, bxo ++ bx, tk⟩ ops Q rest) :
    LW P c ⟨fr, bx, tk⟩ ops Q (⟨some d, .call { callee := .value (.func f), args := args, argTypes := ats }, ty, pos, aft, none⟩ :: rest) :=
  .mk (L.callWG N (st := ⟨fr, bx, tk⟩) rfl rfl hlt hG rfl hok.h hc ha hbi hN hbo hmb hmr (LW.out h))
theorem bm1 {L : List Nat} {id : Nat} {t : TypeId} {xs : List IV} : [(id, Box.mk t (.r xs 0))].all (fun p => AV.mentsIn L p.2.cs) = true := by simp [AV.mentsIn_iv, AV.mentsIn]
theorem bo1 {id : Nat} {t : TypeId} {xs : List IV} {b : Box} (h : xs ≠ []) : boOk [] [(id, ⟨t, .r xs 0⟩)] [(id, b)] = true := by
  cases xs with
  | nil => exact absurd rfl h
  | cons x l => simp [boOk, keys]
end
end Go.Abs
namespace Go.Proofs.YthkobnpogigkiaaDoor
open Go.Abs
set_option maxRecDepth 100000
attribute [local irreducible] L Code.wp bodyPost Exit.then Exit.inBlock
set_option linter.unusedVariables false
set_option linter.unusedSimpArgs false
set_option maxHeartbeats 8000000 in
theorem with_other {gs : Globs} (c : Cat) (s : Stm) (ht : c.ts ≠ []) (hi : c.is ≠ []) (htl : c.ts.length ≤ 3) (hil : c.is.length ≤ 4) (k1 : (s.kind == 1) = false) (k2 : (s.kind == 2) = false) (k3 : (s.kind == 3) = false) :
    CallG gs Tryd.prog 15 [.agg (c.c.map .iv), .agg (s.cs.map .iv)] [] [] [] (.agg (c.c.map .iv)) := by
  refine CallG.intro _ Tryd.func15 rfl Tryd.ntmps15 rfl (fun w0 E0 hG => ?_)
  have hkt : ∀ e ∈ c.ts.map Tab.c, e.length = 2 := by intro e he; obtain ⟨t, _, rfl⟩ := List.mem_map.1 he; rfl
  have hki : ∀ e ∈ c.is.map Idx.c, e.length = 3 := by intro e he; obtain ⟨t, _, rfl⟩ := List.mem_map.1 he; rfl
  have q1 := cloneT_any (c.ts.map Tab.c) hkt (by simpa using ht) (by rw [List.length_map]; simp [maxLen]; omega) (by rw [List.length_map]; omega)
  have q2 := cloneX_any (c.is.map Idx.c) hki (by simpa using hi) (by rw [List.length_map]; simp [maxLen]; omega) (by rw [List.length_map]; omega)
  (repeat' (first | (refine LW.is ?_; first | (apply s_call01; exact rfl; exact q1; exact rfl; exact rfl; exact rfl) | (apply s_call01; exact rfl; exact q2; exact rfl; exact rfl; exact rfl) | refine s_v ?_ | refine s_m ?_ | refine s_nil ?_ | refine s_gd ?_ | (refine s_gsplit rfl rfl rfl (fun hb => ?_) (fun hb => ?_) <;> refine fct hb (fun hp => ?_))) | (refine DR.is ?_; first | (apply d_call01; exact rfl; exact q1; exact rfl; exact rfl; exact rfl) | (apply d_call01; exact rfl; exact q2; exact rfl; exact rfl; exact rfl) | refine d_v ?_ | refine d_m ?_ | (apply d_nil; kernel_rfl) | refine d_gd ?_ | (refine d_gsplit rfl rfl rfl (fun hb => ?_) (fun hb => ?_) <;> refine fct hb (fun hp => ?_))) | refine c_go ?_ | refine s_region ?_ | refine d_region ?_ | (refine L.cond rfl (fun hb => ?_) (fun hb => ?_) <;> refine fct hb (fun hp => ?_))))
  all_goals (apply L.pubB 11 4 (es := c.ts.map Tab.c) (k := 2); exact rfl; exact rfl; exact hkt; decide; exact (by simpa using ht); exact rfl; exact rfl; exact List.cons_ne_nil _ _; exact rfl; exact .cons .here (.cons .same .nil))
  all_goals (apply L.pubB 14 4 (es := c.is.map Idx.c) (k := 3); exact rfl; exact rfl; exact hki; decide; exact (by simpa using hi); exact rfl; exact rfl; exact List.cons_ne_nil _ _; exact rfl; exact .cons .same (.cons .here .nil))
  all_goals (first | (apply L.ends1; exact rfl; exact rfl; exact rfl) | (apply L.ends2; exact rfl; exact rfl; exact rfl) | (apply L.ends3; exact rfl; exact rfl; exact rfl) | (apply L.ends1A; exact rfl; exact rfl; exact rfl) | (apply L.ends2A; exact rfl; exact rfl; exact rfl) | (apply L.ends3A; exact rfl; exact rfl; exact rfl))
  all_goals rfl
set_option maxHeartbeats 8000000 in
theorem with_create {gs : Globs} (c : Cat) (s : Stm) (ht : c.ts ≠ []) (hi : c.is ≠ []) (htl : c.ts.length ≤ 3) (hil : c.is.length ≤ 4) (k1 : (s.kind == 1) = true) (hf : Falls (fun x => decide (x < s.name)) (c.ts.map Tab.n)) :
    CallG gs Tryd.prog 15 [.agg (c.c.map .iv), .agg (s.cs.map .iv)] [] [] [] (.agg ((Cat.mk (c.ts.take (lbM (c.ts.map Tab.n) s.name) ++ ⟨s.name, s.cols⟩ :: c.ts.drop (lbM (c.ts.map Tab.n) s.name)) c.is).c.map .iv)) := by
  refine CallG.intro _ Tryd.func15 rfl Tryd.ntmps15 rfl (fun w0 E0 hG => ?_)
  have hkt : ∀ e ∈ c.ts.map Tab.c, e.length = 2 := by intro e he; obtain ⟨t, _, rfl⟩ := List.mem_map.1 he; rfl
  have hki : ∀ e ∈ c.is.map Idx.c, e.length = 3 := by intro e he; obtain ⟨t, _, rfl⟩ := List.mem_map.1 he; rfl
  have hle : lbM (c.ts.map Tab.n) s.name ≤ c.ts.length := by have := pre_le (fun x => decide (x < s.name)) (c.ts.map Tab.n); rwa [List.length_map] at this
  have q1 := cloneT_any (c.ts.map Tab.c) hkt (by simpa using ht) (by rw [List.length_map]; simp [maxLen]; omega) (by rw [List.length_map]; omega)
  have q2 := cloneX_any (c.is.map Idx.c) hki (by simpa using hi) (by rw [List.length_map]; simp [maxLen]; omega) (by rw [List.length_map]; omega)
  have q4 := insertT_any (c.ts.map Tab.c) [S s.name, .sl (s.cols.map Col.c)] (lbM (c.ts.map Tab.n) s.name) hkt rfl (by simpa using ht) (by rw [List.length_map]; exact hle) (by rw [List.length_map]; simp [maxLen]; omega) (by rw [List.length_map]; omega)
  rw [List.length_map] at q1 q2 q4
  have hE : (c.ts.map Tab.c).take (lbM (c.ts.map Tab.n) s.name) ++ [S s.name, .sl (s.cols.map Col.c)] :: (c.ts.map Tab.c).drop (lbM (c.ts.map Tab.n) s.name) = (c.ts.take (lbM (c.ts.map Tab.n) s.name) ++ ⟨s.name, s.cols⟩ :: c.ts.drop (lbM (c.ts.map Tab.n) s.name) : List Tab).map Tab.c := by simp [List.map_take, List.map_drop, Tab.c]
  rw [hE] at q4
  have hkn : ∀ e ∈ (c.ts.take (lbM (c.ts.map Tab.n) s.name) ++ ⟨s.name, s.cols⟩ :: c.ts.drop (lbM (c.ts.map Tab.n) s.name) : List Tab).map Tab.c, e.length = 2 := by intro e he; obtain ⟨t, _, rfl⟩ := List.mem_map.1 he; rfl
  have hnl : ((c.ts.take (lbM (c.ts.map Tab.n) s.name) ++ ⟨s.name, s.cols⟩ :: c.ts.drop (lbM (c.ts.map Tab.n) s.name) : List Tab).map Tab.c).length = c.ts.length + 1 := by simp; omega
  have q3 := (bsT_any (gs := gs) c.ts s.name ht (by omega) hf).sws [(1000, 11)] (args2 := [.bsh 11 0 c.ts.length 2, aS s.name, .fn 60 []]) (bx2 := [(11, ⟨43, .r (c.ts.map Tab.c).flatten 0⟩)]) (bx2' := [(11, ⟨43, .r (c.ts.map Tab.c).flatten 0⟩)]) (tk2' := []) (res2 := .tup [aI (lbM (c.ts.map Tab.n) s.name : Int), aB (foundM (c.ts.map Tab.n) s.name)]) rfl rfl rfl rfl rfl
  have hfl : (c.ts.map Tab.c).flatten ≠ [] := flat_ne hkt (by decide) (by simpa using ht)
  (repeat' (first | (apply s_callW []; exact rfl; exact hG; exact q3; exact Subs.refl _; exact .cons rfl rfl (Subs.refl _) .nil; exact rfl; exact bo1 hfl; exact bm1; exact rfl) | (refine LW.is ?_; first | (apply s_call01; exact rfl; exact q1; exact rfl; exact rfl; exact rfl) | (apply s_call01; exact rfl; exact q2; exact rfl; exact rfl; exact rfl) | (apply s_buildR (es := [[S s.name, .sl (s.cols.map Col.c)]]); exact rfl; exact rfl; exact rfl; exact rfl; exact rfl; exact rfl; exact rfl; exact rfl; exact rfl) | (apply s_call21; exact rfl; exact q4; exact rfl; exact rfl; exact rfl; exact hfl; exact List.cons_ne_nil _ _; exact rfl; exact rfl; exact rfl) | refine s_v ?_ | refine s_m ?_ | refine s_nil ?_ | refine s_gd ?_ | (refine s_gsplit rfl rfl rfl (fun hb => ?_) (fun hb => ?_) <;> refine fct hb (fun hp => ?_))) | (refine DR.is ?_; first | (apply d_call01; exact rfl; exact q1; exact rfl; exact rfl; exact rfl) | (apply d_call01; exact rfl; exact q2; exact rfl; exact rfl; exact rfl) | (apply d_buildR (es := [[S s.name, .sl (s.cols.map Col.c)]]); exact rfl; exact rfl; exact rfl; exact rfl; exact rfl; exact rfl; exact rfl; exact rfl; exact rfl) | (apply d_call21; exact rfl; exact q4; exact rfl; exact rfl; exact rfl; exact hfl; exact List.cons_ne_nil _ _; exact rfl; exact rfl; exact rfl) | refine d_v ?_ | refine d_m ?_ | (apply d_nil; kernel_rfl) | refine d_gd ?_ | (refine d_gsplit rfl rfl rfl (fun hb => ?_) (fun hb => ?_) <;> refine fct hb (fun hp => ?_))) | refine c_go ?_ | refine s_region ?_ | refine d_region ?_ | (refine L.cond rfl (fun hb => ?_) (fun hb => ?_) <;> refine fct hb (fun hp => ?_))))
  all_goals (apply L.pubB 38 4 (es := (c.ts.take (lbM (c.ts.map Tab.n) s.name) ++ ⟨s.name, s.cols⟩ :: c.ts.drop (lbM (c.ts.map Tab.n) s.name) : List Tab).map Tab.c) (k := 2); exact rfl; exact rfl; exact hkn; decide; exact (by simp); exact hnl; exact rfl; exact List.cons_ne_nil _ _; exact rfl; exact .cons .here (.cons .same .nil))
  all_goals (apply L.pubB 14 4 (es := c.is.map Idx.c) (k := 3); exact rfl; exact rfl; exact hki; decide; exact (by simpa using hi); exact List.length_map _; exact rfl; exact List.cons_ne_nil _ _; exact rfl; exact .cons .same (.cons .here .nil))
  all_goals (first | (apply L.ends1; exact rfl; exact rfl; exact rfl) | (apply L.ends2; exact rfl; exact rfl; exact rfl) | (apply L.ends3; exact rfl; exact rfl; exact rfl) | (apply L.ends1A; exact rfl; exact rfl; exact rfl) | (apply L.ends2A; exact rfl; exact rfl; exact rfl) | (apply L.ends3A; exact rfl; exact rfl; exact rfl))
  all_goals rfl
set_option maxHeartbeats 8000000 in
theorem with_mark {gs : Globs} (c : Cat) (s : Stm) (ht : c.ts ≠ []) (hi : c.is ≠ []) (htl : c.ts.length ≤ 3) (hil : c.is.length ≤ 4) (k1 : (s.kind == 1) = false) (k2 : (s.kind == 2) = true) (hf : Falls (fun x => decide (x < s.name)) (c.is.map Idx.n)) :
    CallG gs Tryd.prog 15 [.agg (c.c.map .iv), .agg (s.cs.map .iv)] [] [] [] (.agg ((Cat.mk c.ts (c.is.take (lbM (c.is.map Idx.n) s.name) ++ ⟨s.name, s.table, s.col⟩ :: c.is.drop (lbM (c.is.map Idx.n) s.name))).c.map .iv)) := by
  refine CallG.intro _ Tryd.func15 rfl Tryd.ntmps15 rfl (fun w0 E0 hG => ?_)
  have hkt : ∀ e ∈ c.ts.map Tab.c, e.length = 2 := by intro e he; obtain ⟨t, _, rfl⟩ := List.mem_map.1 he; rfl
  have hki : ∀ e ∈ c.is.map Idx.c, e.length = 3 := by intro e he; obtain ⟨t, _, rfl⟩ := List.mem_map.1 he; rfl
  have hle : lbM (c.is.map Idx.n) s.name ≤ c.is.length := by have := pre_le (fun x => decide (x < s.name)) (c.is.map Idx.n); rwa [List.length_map] at this
  have q1 := cloneT_any (c.ts.map Tab.c) hkt (by simpa using ht) (by rw [List.length_map]; simp [maxLen]; omega) (by rw [List.length_map]; omega)
  have q2 := cloneX_any (c.is.map Idx.c) hki (by simpa using hi) (by rw [List.length_map]; simp [maxLen]; omega) (by rw [List.length_map]; omega)
  have q4 := insertX_any (c.is.map Idx.c) [S s.name, S s.table, S s.col] (lbM (c.is.map Idx.n) s.name) hki rfl (by simpa using hi) (by rw [List.length_map]; exact hle) (by rw [List.length_map]; simp [maxLen]; omega) (by rw [List.length_map]; omega)
  rw [List.length_map] at q1 q2 q4
  have hE : (c.is.map Idx.c).take (lbM (c.is.map Idx.n) s.name) ++ [S s.name, S s.table, S s.col] :: (c.is.map Idx.c).drop (lbM (c.is.map Idx.n) s.name) = (c.is.take (lbM (c.is.map Idx.n) s.name) ++ ⟨s.name, s.table, s.col⟩ :: c.is.drop (lbM (c.is.map Idx.n) s.name) : List Idx).map Idx.c := by simp [List.map_take, List.map_drop, Idx.c]
  rw [hE] at q4
  have hkn : ∀ e ∈ (c.is.take (lbM (c.is.map Idx.n) s.name) ++ ⟨s.name, s.table, s.col⟩ :: c.is.drop (lbM (c.is.map Idx.n) s.name) : List Idx).map Idx.c, e.length = 3 := by intro e he; obtain ⟨t, _, rfl⟩ := List.mem_map.1 he; rfl
  have hnl : ((c.is.take (lbM (c.is.map Idx.n) s.name) ++ ⟨s.name, s.table, s.col⟩ :: c.is.drop (lbM (c.is.map Idx.n) s.name) : List Idx).map Idx.c).length = c.is.length + 1 := by simp; omega
  have q3 := (bsX_any (gs := gs) c.is s.name hi (by omega) hf).sws [(1000, 14)] (args2 := [.bsh 14 0 c.is.length 3, aS s.name, .fn 64 []]) (bx2 := [(14, ⟨81, .r (c.is.map Idx.c).flatten 0⟩)]) (bx2' := [(14, ⟨81, .r (c.is.map Idx.c).flatten 0⟩)]) (tk2' := []) (res2 := .tup [aI (lbM (c.is.map Idx.n) s.name : Int), aB (foundM (c.is.map Idx.n) s.name)]) rfl rfl rfl rfl rfl
  have hfl : (c.is.map Idx.c).flatten ≠ [] := flat_ne hki (by decide) (by simpa using hi)
  (repeat' (first | (apply s_callW []; exact rfl; exact hG; exact q3; exact Subs.refl _; exact .cons rfl rfl (Subs.refl _) .nil; exact rfl; exact bo1 hfl; exact bm1; exact rfl) | (refine LW.is ?_; first | (apply s_call01; exact rfl; exact q1; exact rfl; exact rfl; exact rfl) | (apply s_call01; exact rfl; exact q2; exact rfl; exact rfl; exact rfl) | (apply s_buildR (es := [[S s.name, S s.table, S s.col]]); exact rfl; exact rfl; exact rfl; exact rfl; exact rfl; exact rfl; exact rfl; exact rfl; exact rfl) | (apply s_call21; exact rfl; exact q4; exact rfl; exact rfl; exact rfl; exact hfl; exact List.cons_ne_nil _ _; exact rfl; exact rfl; exact rfl) | refine s_v ?_ | refine s_m ?_ | refine s_nil ?_ | refine s_gd ?_ | (refine s_gsplit rfl rfl rfl (fun hb => ?_) (fun hb => ?_) <;> refine fct hb (fun hp => ?_))) | (refine DR.is ?_; first | (apply d_call01; exact rfl; exact q1; exact rfl; exact rfl; exact rfl) | (apply d_call01; exact rfl; exact q2; exact rfl; exact rfl; exact rfl) | (apply d_buildR (es := [[S s.name, S s.table, S s.col]]); exact rfl; exact rfl; exact rfl; exact rfl; exact rfl; exact rfl; exact rfl; exact rfl; exact rfl) | (apply d_call21; exact rfl; exact q4; exact rfl; exact rfl; exact rfl; exact hfl; exact List.cons_ne_nil _ _; exact rfl; exact rfl; exact rfl) | refine d_v ?_ | refine d_m ?_ | (apply d_nil; kernel_rfl) | refine d_gd ?_ | (refine d_gsplit rfl rfl rfl (fun hb => ?_) (fun hb => ?_) <;> refine fct hb (fun hp => ?_))) | refine c_go ?_ | refine s_region ?_ | refine d_region ?_ | (refine L.cond rfl (fun hb => ?_) (fun hb => ?_) <;> refine fct hb (fun hp => ?_))))
  all_goals (apply L.pubB 11 4 (es := c.ts.map Tab.c) (k := 2); exact rfl; exact rfl; exact hkt; decide; exact (by simpa using ht); exact List.length_map _; exact rfl; exact List.cons_ne_nil _ _; exact rfl; exact .cons .here (.cons .same .nil))
  all_goals (apply L.pubB 61 4 (es := (c.is.take (lbM (c.is.map Idx.n) s.name) ++ ⟨s.name, s.table, s.col⟩ :: c.is.drop (lbM (c.is.map Idx.n) s.name) : List Idx).map Idx.c) (k := 3); exact rfl; exact rfl; exact hkn; decide; exact (by simp); exact hnl; exact rfl; exact List.cons_ne_nil _ _; exact rfl; exact .cons .same (.cons .here .nil))
  all_goals (first | (apply L.ends1; exact rfl; exact rfl; exact rfl) | (apply L.ends2; exact rfl; exact rfl; exact rfl) | (apply L.ends3; exact rfl; exact rfl; exact rfl) | (apply L.ends1A; exact rfl; exact rfl; exact rfl) | (apply L.ends2A; exact rfl; exact rfl; exact rfl) | (apply L.ends3A; exact rfl; exact rfl; exact rfl))
  all_goals rfl
end Go.Proofs.YthkobnpogigkiaaDoor
/- A catalog behind a drop: what With computes. Conditions: how much there is of what comes in. -/
namespace Go.Proofs.YthkobnpogigkiaaDoor
open Go.Abs
set_option maxRecDepth 100000
attribute [local irreducible] L Code.wp bodyPost Exit.then Exit.inBlock
set_option linter.unusedVariables false
set_option linter.unusedSimpArgs false
theorem hmx2 {t : TypeId} {xs : List IV} {b : Box} (h : xs ≠ []) (hb : (!b.cs.isEmpty && AV.mentsIn [1000, 1001] b.cs) = true) : ([(1000, ⟨t, .r xs 0⟩), (1001, b)] : List (Nat × Box)).all (fun p => !p.2.cs.isEmpty && AV.mentsIn (keys [(1000, (⟨t, .r xs 0⟩ : Box)), (1001, b)]) p.2.cs) = true := by
  have h0 : xs.isEmpty = false := by cases xs with | nil => exact absurd rfl h | cons x l => rfl
  simp only [List.all_cons, List.all_nil, Bool.and_true, Bool.and_eq_true]
  refine ⟨⟨by cases xs with | nil => exact absurd rfl h | cons x l => simp, by simp [AV.mentsIn_iv, AV.mentsIn]⟩, ?_⟩
  simpa [keys] using hb
theorem bo2 {i n : Nat} {t : TypeId} {xs ys : List IV} {b : Box} (h : xs ≠ []) (hb : b.cs.isEmpty = false) : boOk [n] [(i, ⟨t, .r xs 0⟩), (3, b)] [(n, ⟨t, .r ys 0⟩), (i, ⟨t, .l []⟩), (3, b)] = true := by
  cases xs with
  | nil => exact absurd rfl h
  | cons x l => simp [boOk, keys, hb]
theorem bm2 {L : List Nat} {i n : Nat} {t : TypeId} {ys : List IV} {b : Box} (hb : AV.mentsIn L b.cs = true) : ([(n, (⟨t, .r ys 0⟩ : Box)), (i, ⟨t, .l []⟩), (3, b)] : List (Nat × Box)).all (fun p => AV.mentsIn L p.2.cs) = true := by simp [AV.mentsIn_iv, AV.mentsIn, hb]
set_option maxHeartbeats 8000000 in
theorem with_dropKK {gs : Globs} (c : Cat) (s : Stm) (ht : c.ts ≠ []) (hi : c.is ≠ []) (htl : c.ts.length ≤ 3) (hil : c.is.length ≤ 4) (k1 : (s.kind == 1) = false) (k2 : (s.kind == 2) = false) (k3 : (s.kind == 3) = true)
    (hkT : c.ts.filter (fun x => !(x.n == s.name)) ≠ []) (hkX : c.is.filter (fun x => !(x.tb == s.name)) ≠ []) :
    CallG gs Tryd.prog 15 [.agg (c.c.map .iv), .agg (s.cs.map .iv)] [] [] [] (.agg ((Cat.mk (c.ts.filter (fun x => !(x.n == s.name))) (c.is.filter (fun x => !(x.tb == s.name)))).c.map .iv)) := by
  refine CallG.intro _ Tryd.func15 rfl Tryd.ntmps15 rfl (fun w0 E0 hG => ?_)
  have hkt : ∀ e ∈ c.ts.map Tab.c, e.length = 2 := by intro e he; obtain ⟨t, _, rfl⟩ := List.mem_map.1 he; rfl
  have hki : ∀ e ∈ c.is.map Idx.c, e.length = 3 := by intro e he; obtain ⟨t, _, rfl⟩ := List.mem_map.1 he; rfl
  have q1 := cloneT_any (c.ts.map Tab.c) hkt (by simpa using ht) (by rw [List.length_map]; simp [maxLen]; omega) (by rw [List.length_map]; omega)
  have q2 := cloneX_any (c.is.map Idx.c) hki (by simpa using hi) (by rw [List.length_map]; simp [maxLen]; omega) (by rw [List.length_map]; omega)
  rw [List.length_map] at q1 q2
  have hfT : (c.ts.map Tab.c).flatten ≠ [] := flat_ne hkt (by decide) (by simpa using ht)
  have hfX : (c.is.map Idx.c).flatten ≠ [] := flat_ne hki (by decide) (by simpa using hi)
  have q3 := dfT_kept (gs := gs) (f := 67) (s := s) (fun t => t.n == s.name) c.ts ht (by omega) rfl (hmx2 hfT rfl) (fun y _ => ((with3_any s y.n (.sl (y.cols.map Col.c))).toG (gs := gs)).sws [(1000, 1001)] rfl rfl rfl rfl rfl) hkT
  have q4 := dfX_kept (gs := gs) (f := 69) (s := s) (fun x => x.tb == s.name) c.is hi (by omega) rfl (hmx2 hfX rfl) (fun y _ => ((with4_any s y.n y.tb (S y.co)).toG (gs := gs)).sws [(1000, 1001)] rfl rfl rfl rfl rfl) hkX
  have q5 := q3.sws [(1002, 68), (1001, 3), (1000, 11)] (args2 := [.bsh 11 0 c.ts.length 2, .fn 67 [.ptr 3 0]]) (bx2 := [(11, ⟨43, .r (c.ts.map Tab.c).flatten 0⟩), (3, (Box.mk 36 (.l (s.cs.map .iv))))]) (bx2' := [(68, ⟨43, .r ((c.ts.filter (fun x => !(x.n == s.name))).map Tab.c).flatten 0⟩), (11, ⟨43, .l []⟩), (3, (Box.mk 36 (.l (s.cs.map .iv))))]) (tk2' := []) (res2 := .bsh 68 0 (c.ts.filter (fun x => !(x.n == s.name))).length 2) rfl rfl rfl rfl rfl
  have q6 := q4.sws [(1002, 73), (1001, 3), (1000, 14)] (args2 := [.bsh 14 0 c.is.length 3, .fn 69 [.ptr 3 0]]) (bx2 := [(14, ⟨81, .r (c.is.map Idx.c).flatten 0⟩), (3, (Box.mk 36 (.l (s.cs.map .iv))))]) (bx2' := [(73, ⟨81, .r ((c.is.filter (fun x => !(x.tb == s.name))).map Idx.c).flatten 0⟩), (14, ⟨81, .l []⟩), (3, (Box.mk 36 (.l (s.cs.map .iv))))]) (tk2' := []) (res2 := .bsh 73 0 (c.is.filter (fun x => !(x.tb == s.name))).length 3) rfl rfl rfl rfl rfl
  (repeat' (first | (apply s_vr; exact rfl; apply v_makeFunc; exact rfl) | (apply s_callW [68]; exact rfl; exact hG; exact q5; exact Subs.refl _; exact .cons rfl rfl (Subs.refl _) (.cons rfl rfl (Subs.refl _) .nil); exact rfl; exact bo2 hfT rfl; exact bm2 rfl; exact rfl) | (apply s_callW [73]; exact rfl; exact hG; exact q6; exact Subs.refl _; exact .cons rfl rfl (Subs.refl _) (.cons rfl rfl (Subs.refl _) .nil); exact rfl; exact bo2 hfX rfl; exact bm2 rfl; exact rfl) | (refine LW.is ?_; first | (apply s_call01; exact rfl; exact q1; exact rfl; exact rfl; exact rfl) | (apply s_call01; exact rfl; exact q2; exact rfl; exact rfl; exact rfl) | refine s_v ?_ | refine s_m ?_ | refine s_nil ?_ | refine s_gd ?_ | (refine s_gsplit rfl rfl rfl (fun hb => ?_) (fun hb => ?_) <;> refine fct hb (fun hp => ?_))) | (refine DR.is ?_; first | (apply d_call01; exact rfl; exact q1; exact rfl; exact rfl; exact rfl) | (apply d_call01; exact rfl; exact q2; exact rfl; exact rfl; exact rfl) | refine d_v ?_ | refine d_m ?_ | (apply d_nil; kernel_rfl) | refine d_gd ?_ | (refine d_gsplit rfl rfl rfl (fun hb => ?_) (fun hb => ?_) <;> refine fct hb (fun hp => ?_))) | refine c_go ?_ | refine s_region ?_ | refine d_region ?_ | (refine L.cond rfl (fun hb => ?_) (fun hb => ?_) <;> refine fct hb (fun hp => ?_))))
  all_goals (apply L.pubB 68 4 (es := (c.ts.filter (fun x => !(x.n == s.name))).map Tab.c) (k := 2); exact rfl; exact rfl; (intro e he; obtain ⟨t, _, rfl⟩ := List.mem_map.1 he; rfl); decide; exact (by simpa using hkT); exact List.length_map _; exact rfl; exact List.cons_ne_nil _ _; exact rfl; exact .cons .here (.cons .same .nil))
  all_goals (apply L.pubB 73 4 (es := (c.is.filter (fun x => !(x.tb == s.name))).map Idx.c) (k := 3); exact rfl; exact rfl; (intro e he; obtain ⟨t, _, rfl⟩ := List.mem_map.1 he; rfl); decide; exact (by simpa using hkX); exact List.length_map _; exact rfl; exact List.cons_ne_nil _ _; exact rfl; exact .cons .same (.cons .here .nil))
  all_goals (first | (apply L.ends1; exact rfl; exact rfl; exact rfl) | (apply L.ends2; exact rfl; exact rfl; exact rfl) | (apply L.ends3; exact rfl; exact rfl; exact rfl) | (apply L.ends1A; exact rfl; exact rfl; exact rfl) | (apply L.ends2A; exact rfl; exact rfl; exact rfl) | (apply L.ends3A; exact rfl; exact rfl; exact rfl))
  all_goals rfl
end Go.Proofs.YthkobnpogigkiaaDoor
