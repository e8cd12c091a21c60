/- Trees: what page and Put compute. Conditions: the tree is good; how much there is of what comes in. -/
import Derived.Test.YtanlhpdjgelehaaR9
namespace Go.Proofs.Ytanlhpdjgelehaa
open Go.Abs
attribute [local irreducible] L Code.wp bodyPost Exit.then Exit.inBlock
set_option linter.unusedVariables false
set_option linter.unusedSimpArgs false

def insAt {α : Type} (l : List α) (i : Nat) (a : α) : List α := l.take i ++ a :: l.drop i
theorem insAt_len {α : Type} {l : List α} {i : Nat} {a : α} (hi : i ≤ l.length) : (insAt l i a).length = l.length + 1 := by simp [insAt]; omega
theorem insAt_map {α β : Type} (f : α → β) (l : List α) (i : Nat) (a : α) : (insAt l i a).map f = (l.map f).take i ++ f a :: (l.map f).drop i := by simp [insAt, List.map_take, List.map_drop]
theorem lenS1 (ks : List Str) : ∀ e ∈ ks.map Str.c, e.length = 1 := fun e he => by
  obtain ⟨s, _, rfl⟩ := List.mem_map.1 he; rfl
theorem lenP2 (ps : List Pg) : ∀ e ∈ ps.map Pg.c, e.length = 2 := fun e he => by
  obtain ⟨s, _, rfl⟩ := List.mem_map.1 he; rfl
theorem map_ne {α β : Type} {f : α → β} {l : List α} (h : l ≠ []) : l.map f ≠ [] := by simpa using h
theorem maxL : maxLen = 9223372036854775807 := rfl

theorem cloneS_str (ks : List Str) (hne : ks ≠ []) (hl : ks.length ≤ 1000) :
    CallA Try.prog 54 [.iv (.sl (ks.map Str.c))] [] [(1000, ⟨9, .r (ks.map Str.c).flatten 0⟩)] [] (.bsh 1000 0 ks.length 1) := by
  have := cloneS_any (ks.map Str.c) (lenS1 ks) (map_ne hne) (by rw [List.length_map, maxL]; omega) (by rw [List.length_map]; omega)
  rw [List.length_map] at this; exact this
theorem cloneP_pg (ps : List Pg) (hne : ps ≠ []) (hl : ps.length * 48 ≤ 140737488355328) :
    CallA Try.prog 51 [.iv (.sl (ps.map Pg.c))] [] [(1000, ⟨79, .r (ps.map Pg.c).flatten 0⟩)] [] (.bsh 1000 0 ps.length 2) := by
  have := cloneP_any (ps.map Pg.c) (lenP2 ps) (map_ne hne) (by rw [List.length_map, maxL]; omega) (by rw [List.length_map]; omega)
  rw [List.length_map] at this; exact this
theorem insertS_str (ks : List Str) (key : Str) (i : Nat) (a : Int) (ha : a = i) (hne : ks ≠ []) (hi : i ≤ ks.length) (hl : ks.length ≤ 1000) :
    CallA Try.prog 53 [.bsh 1000 0 ks.length 1, aI a, .bsl 1001 0 1 1] [(1000, ⟨9, .r (ks.map Str.c).flatten 0⟩), (1001, ⟨9, .r [[S key]].flatten 0⟩)] [(1002, ⟨9, .r ((insAt ks i key).map Str.c).flatten 0⟩), (1000, ⟨9, .l []⟩), (1001, ⟨9, .l []⟩)] [] (.bsh 1002 0 (insAt ks i key).length 1) := by
  have := insertS_any (ks.map Str.c) [S key] i (lenS1 ks) rfl (map_ne hne) (by rw [List.length_map]; exact hi) (by rw [List.length_map, maxL]; omega) (by rw [List.length_map]; omega)
  rw [List.length_map, ← insAt_len hi (a := key)] at this
  rw [insAt_map, ha]; exact this
theorem insertP_pg (ps : List Pg) (y : Pg) (i : Nat) (a : Int) (ha : a = i) (hne : ps ≠ []) (hi : i ≤ ps.length) (hl : (ps.length + 1) * 48 ≤ 140737488355328) :
    CallA Try.prog 55 [.bsh 1000 0 ps.length 2, aI a, .bsl 1001 0 1 1] [(1000, ⟨79, .r (ps.map Pg.c).flatten 0⟩), (1001, ⟨79, .r [Pg.c y].flatten 0⟩)] [(1002, ⟨79, .r ((insAt ps i y).map Pg.c).flatten 0⟩), (1000, ⟨79, .l []⟩), (1001, ⟨79, .l []⟩)] [] (.bsh 1002 0 (insAt ps i y).length 2) := by
  have := insertP_any (ps.map Pg.c) (Pg.c y) i (lenP2 ps) rfl (map_ne hne) (by rw [List.length_map]; exact hi) (by rw [List.length_map, maxL]; omega) (by rw [List.length_map]; exact hl)
  rw [List.length_map, ← insAt_len hi (a := y)] at this
  rw [insAt_map, ha]; exact this

set_option maxRecDepth 100000 in
set_option maxHeartbeats 4000000 in
theorem page_any (p : Pg) (hk : p.ks ≠ []) (hv : p.vs ≠ []) (h1 : p.ks.length ≤ 1000) (h2 : p.vs.length ≤ 1000) :
    CallA Try.prog 52 [.agg [.iv (.sl (p.ks.map Str.c)), .iv (.sl (p.vs.map Str.c))]] [] [(1000, ⟨9, .r (p.ks.map Str.c).flatten 0⟩), (1001, ⟨9, .r (p.vs.map Str.c).flatten 0⟩)] [] (.agg [.bsh 1000 0 p.ks.length 1, .bsh 1001 0 p.vs.length 1]) := by
  have h : CallA Try.prog 52 [.agg [.iv (.sl (p.ks.map Str.c)), .iv (.sl (p.vs.map Str.c))]] [] [(5, ⟨9, .r (p.ks.map Str.c).flatten 0⟩), (8, ⟨9, .r (p.vs.map Str.c).flatten 0⟩)] [] (.agg [.bsh 5 0 p.ks.length 1, .bsh 8 0 p.vs.length 1]) := by
    refine CallA.intro _ Try.func52 rfl Try.ntmps52 rfl (fun w0 E0 => ?_)
    (repeat' (first | (refine LW.is ?_; first | (refine s_nil ?_) | (apply s_box; exact rfl; exact rfl; exact rfl; (focus repeat' (first | exact nl_nil rfl | (apply nl_cons; exact rfl) | exact nIm rfl | exact nSl rfl | exact nIv rfl | exact nRow rfl | exact nNil rfl | exact nPtr rfl | exact nBsh rfl | exact nBsl rfl | exact nAny rfl | exact nIIm rfl | exact nISl rfl | exact rfl)); exact rfl; exact rfl) | (apply s_alloc; exact rfl; exact rfl; (focus repeat' (first | exact nl_nil rfl | (apply nl_cons; exact rfl) | exact nIm rfl | exact nSl rfl | exact nIv rfl | exact nRow rfl | exact nNil rfl | exact nPtr rfl | exact nBsh rfl | exact nBsl rfl | exact nAny rfl | exact nIIm rfl | exact nISl rfl | exact rfl)); exact rfl; exact rfl)) | (refine DR.is ?_; first | ((apply d_call01; exact rfl; exact cloneS_str p.ks hk h1; exact rfl; exact rfl; exact rfl)) | ((apply d_call01; exact rfl; exact cloneS_str p.vs hv h2; exact rfl; exact rfl; exact rfl)) | (apply d_nil; kernel_rfl) | (apply d_fieldP; exact rfl; exact rfl; exact rfl) | (apply d_load1P; exact rfl; exact rfl; exact rfl; (apply n_some; exact rfl; (first | exact nIm rfl | exact nSl rfl | exact nIv rfl | exact nRow rfl | exact nNil rfl | exact nPtr rfl | exact nBsh rfl | exact nBsl rfl | exact nAny rfl | exact rfl))) | (apply d_build; exact rfl; exact rfl; (apply n_some; exact rfl; (focus repeat' (first | exact nl_nil rfl | (apply nl_cons; exact rfl) | exact nIm rfl | exact nSl rfl | exact nIv rfl | exact nRow rfl | exact nNil rfl | exact nPtr rfl | exact nBsh rfl | exact nBsl rfl | exact nAny rfl | exact nIIm rfl | exact nISl rfl | exact rfl)))) | (apply d_store; exact rfl; exact rfl; exact rfl; exact rfl; exact rfl; exact rfl; (focus repeat' (first | exact nl_nil rfl | (apply nl_cons; exact rfl) | exact nIm rfl | exact nSl rfl | exact nIv rfl | exact nRow rfl | exact nNil rfl | exact nPtr rfl | exact nBsh rfl | exact nBsl rfl | exact nAny rfl | exact nIIm rfl | exact nISl rfl | exact rfl)))) | (refine c_seq ?_) | (refine s_region ?_) | (refine d_region ?_) | (refine L.thenN ?_) | (refine L.ret ?_)))
    all_goals (apply L.ends; exact rfl; exact rfl; exact Sub.refl _; exact Wk.mk' (by intro id h; simp [keys] at h) .nil (.cons rfl rfl (Subs.refl _) (.cons rfl rfl (Subs.refl _) .nil)) .nil)
  exact h.sws [(5, 1000), (8, 1001)] rfl rfl rfl rfl rfl
end Go.Proofs.Ytanlhpdjgelehaa
