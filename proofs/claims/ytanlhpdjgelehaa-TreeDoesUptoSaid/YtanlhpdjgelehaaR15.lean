/- Trees: TreeKeeps answers true. Conditions: how much there is of what comes in. -/
import Derived.Test.YtanlhpdjgelehaaR12
import Derived.Test.YtanlhpdjgelehaaP5
namespace Go.Proofs.Ytanlhpdjgelehaa
open Go.Abs
attribute [local irreducible] L Code.wp bodyPost Exit.then Exit.inBlock
set_option linter.unusedVariables false
set_option linter.unusedSimpArgs false

set_option maxRecDepth 100000 in
set_option maxHeartbeats 8000000 in
theorem keeps_any (ps : List Pg) (k v other : Str) (hl : ps.length * 48 ≤ 140737488351232) :
    CallA Try.prog 10 [.agg [.iv (.sl (ps.map Pg.c))], aS k, aS v, aS other] [] [] [] (aB true) := by
  have kt := trees_any
  have kg := goodtree_any ps (by omega)
  cases hg : goodTree ps with
  | false =>
    rw [hg] at kg
    refine CallA.intro _ Try.func10 rfl Try.ntmps10 rfl (fun w0 E0 => ?_)
    (repeat' (first | (refine LW.is ?_; first | ((apply s_call0; exact rfl; exact kg; exact rfl; exact rfl)) | ((apply s_call0; exact rfl; exact kt; exact rfl; exact rfl)) | (refine s_nil ?_) | (apply s_asIv; exact rfl; exact rfl) | (apply s_loadAP; exact rfl; exact rfl; exact rfl; (focus repeat' (first | exact nl_nil rfl | (apply nl_cons; exact rfl) | exact nIm rfl | exact nSl rfl | exact nIv rfl | exact nRow rfl | exact nNil rfl | exact nPtr rfl | exact nBsh rfl | exact nBsl rfl | exact nAny rfl | exact nIIm rfl | exact nISl rfl | exact rfl)); exact rfl) | (apply s_not; exact rfl; exact rfl) | (apply s_box; exact rfl; exact rfl; exact rfl; (focus repeat' (first | exact nl_nil rfl | (apply nl_cons; exact rfl) | exact nIm rfl | exact nSl rfl | exact nIv rfl | exact nRow rfl | exact nNil rfl | exact nPtr rfl | exact nBsh rfl | exact nBsl rfl | exact nAny rfl | exact nIIm rfl | exact nISl rfl | exact rfl)); exact rfl; exact rfl)) | (refine c_seq ?_) | (refine s_region ?_) | (refine L.thenN ?_) | (refine L.thenR ?_) | (refine L.ret ?_) | (apply c_condT; exact rfl; (first | exact rfl | assumption))))
    all_goals (first | (apply L.ends1; exact rfl; exact rfl; exact rfl) | (apply L.ends2; exact rfl; exact rfl; exact rfl) | (apply L.ends3; exact rfl; exact rfl; exact rfl) | (apply L.ends1A; exact rfl; exact rfl; exact rfl) | (apply L.ends2A; exact rfl; exact rfl; exact rfl))
    all_goals rfl
  | true =>
    rw [hg] at kg
    have hok := ((good_iff ps).1 hg).1
    have hs : SortF (flatP ps) := (good_flat hok).1 hg
    have hX := put_good (key := k) (val := v) hg
    have hY := drop_good (key := k) hg
    have oX := put_ok (key := k) (val := v) hok
    have oY := drop_ok (key := k) hok
    have fX := put_flat (key := k) (val := v) hg
    have fY := drop_flat (key := k) hg
    have lX := put_len (ps := ps) (key := k) (val := v)
    have lY := drop_len (ps := ps) (key := k)
    have kp := put_any ps k v (by omega)
    have kd := drop_any ps k (by omega)
    have g0 := get_flat (key := k) hg
    have g1 := get_flat (key := k) hX
    have g2 := get_flat (key := k) hY
    have s0 := size_flat hok
    have s1 := size_flat oX
    have s2 := size_flat oY
    have b0 := size_le hok
    have b1 := size_le oX
    have b2 := size_le oY
    have po := fun h : other ≠ k => put_other (v := v) hs h
    have do' := fun h : other ≠ k => drop_other hs h
    have o0 := get_flat (key := other) hg
    have o1 := get_flat (key := other) hX
    have o2 := get_flat (key := other) hY
    rw [fX] at g1 s1 o1
    rw [fY] at g2 s2 o2
    rw [put_find hs] at g1
    rw [drop_find hs] at g2
    rw [put_size hs] at s1
    rw [drop_size hs] at s2
    have kX := goodtree_any (putM ps k v) (by omega)
    have kY := goodtree_any (dropM ps k) (by omega)
    rw [hX] at kX
    rw [hY] at kY
    have c1 := get_any (putM ps k v) k (by omega)
    have c2 := get_any (dropM ps k) k (by omega)
    have c0 := get_any ps k (by omega)
    have d0 := get_any ps other (by omega)
    have d1 := get_any (putM ps k v) other (by omega)
    have d2 := get_any (dropM ps k) other (by omega)
    have z0 := size_any ps (by omega) (by omega)
    have z1 := size_any (putM ps k v) (by omega) (by omega)
    have z2 := size_any (dropM ps k) (by omega) (by omega)
    have hh := find_has (l := flatP ps) (k := k)
    rw [g1] at c1
    rw [g2] at c2
    rw [g0] at c0
    rw [← s0] at s1 s2 hh
    rw [o0] at d0
    rw [o1] at d1
    rw [o2] at d2
    generalize putM ps k v = X at *
    generalize dropM ps k = Y at *
    generalize findF (flatP ps) k = f0 at *
    obtain ⟨fv, was⟩ := f0
    dsimp only at c0 c1 c2 s1 s2 hh
    have hv : (!(v == v)) = false := by simp
    clear hX hY oX oY fX fY hg hok o0 o1 o2 g0 g1 g2 s0 hs
    generalize sizeM ps = n0 at *
    generalize sizeM X = n1 at *
    generalize sizeM Y = n2 at *
    have hoo : (other == k) = true ∨ ((other == k) = false ∧ findF (putF (flatP ps) k v) other = findF (flatP ps) other ∧ findF (dropF (flatP ps) k) other = findF (flatP ps) other) := by
      cases e : other == k with
      | true => exact .inl rfl
      | false => exact .inr ⟨rfl, po (by simpa using e), do' (by simpa using e)⟩
    clear po do'
    generalize findF (putF (flatP ps) k v) other = fo1 at *
    generalize findF (dropF (flatP ps) k) other = fo2 at *
    generalize findF (flatP ps) other = fo0 at *
    cases was with
    | true =>
      have hh := hh rfl
      rw [if_pos rfl] at s1 s2
      subst s1; subst s2
      have q1 : (((n1 : Nat) : Int) != ((n1 : Nat) : Int)) = false := by simp
      have q2 : (((n1 - 1 : Nat) : Int) != ((n1 : Nat) : Int) - 1) = false := by simp; omega
      rcases hoo with hoo | ⟨hoo, h1, h2⟩
      · refine CallA.intro _ Try.func10 rfl Try.ntmps10 rfl (fun w0 E0 => ?_)
        (repeat' (first | (refine LW.is ?_; first | ((apply s_call0; exact rfl; exact kg; exact rfl; exact rfl)) | ((apply s_call0; exact rfl; exact c0; exact rfl; exact rfl)) | ((apply s_call0; exact rfl; exact c1; exact rfl; exact rfl)) | ((apply s_call0; exact rfl; exact c2; exact rfl; exact rfl)) | ((apply s_call0; exact rfl; exact d0; exact rfl; exact rfl)) | ((apply s_call0; exact rfl; exact d1; exact rfl; exact rfl)) | ((apply s_call0; exact rfl; exact d2; exact rfl; exact rfl)) | ((apply s_call0; exact rfl; exact z0; exact rfl; exact rfl)) | ((apply s_call0; exact rfl; exact z1; exact rfl; exact rfl)) | ((apply s_call0; exact rfl; exact z2; exact rfl; exact rfl)) | ((apply s_call0; exact rfl; exact kX; exact rfl; exact rfl)) | ((apply s_call0; exact rfl; exact kY; exact rfl; exact rfl)) | ((apply s_call0; exact rfl; exact kt; exact rfl; exact rfl)) | (refine s_nil ?_) | (apply s_mvIv; exact rfl; exact rfl) | (apply s_mvTup; exact rfl; exact rfl) | (apply s_asIv; exact rfl; exact rfl) | (apply s_loadAP; exact rfl; exact rfl; exact rfl; (focus repeat' (first | exact nl_nil rfl | (apply nl_cons; exact rfl) | exact nIm rfl | exact nSl rfl | exact nIv rfl | exact nRow rfl | exact nNil rfl | exact nPtr rfl | exact nBsh rfl | exact nBsl rfl | exact nAny rfl | exact nIIm rfl | exact nISl rfl | exact rfl)); exact rfl) | (apply s_neqI; exact rfl; exact rfl; exact rfl) | (apply s_eqlS; exact rfl; exact rfl; exact rfl) | (apply s_neqS; exact rfl; exact rfl; exact rfl) | (apply s_not; exact rfl; exact rfl) | (apply s_extract; exact rfl; exact rfl; (apply n_some; exact rfl; (first | exact nIm rfl | exact nSl rfl | exact nIv rfl | exact nRow rfl | exact nNil rfl | exact nPtr rfl | exact nBsh rfl | exact nBsl rfl | exact nAny rfl | exact rfl))) | (apply s_box; exact rfl; exact rfl; exact rfl; (focus repeat' (first | exact nl_nil rfl | (apply nl_cons; exact rfl) | exact nIm rfl | exact nSl rfl | exact nIv rfl | exact nRow rfl | exact nNil rfl | exact nPtr rfl | exact nBsh rfl | exact nBsl rfl | exact nAny rfl | exact nIIm rfl | exact nISl rfl | exact rfl)); exact rfl; exact rfl) | (apply s_addI; exact rfl; exact rfl; exact rfl; (first | omega | decide | (dsimp only; omega)); (first | omega | decide | (dsimp only; omega))) | (apply s_subI; exact rfl; exact rfl; exact rfl; (first | omega | decide | (dsimp only; omega)); (first | omega | decide | (dsimp only; omega))) | (apply s_gdo; exact rfl; exact rfl; (first | exact rfl | assumption)) | (apply s_gskipF; exact rfl; exact rfl; exact rfl; (first | exact rfl | assumption)) | (apply s_gskipU; exact rfl; exact rfl; exact rfl) | (apply s_pickTIv; exact rfl; exact rfl; (first | exact rfl | assumption); exact rfl) | (apply s_pickFIv; exact rfl; exact rfl; (first | exact rfl | assumption); exact rfl)) | (refine DR.is ?_; first | ((apply d_call0; exact rfl; exact kp; exact rfl; exact rfl)) | ((apply d_call0; exact rfl; exact kd; exact rfl; exact rfl)) | (apply d_nil; kernel_rfl) | (apply d_mvIv; exact rfl; exact rfl) | (apply d_loadAP; exact rfl; exact rfl; exact rfl; (focus repeat' (first | exact nl_nil rfl | (apply nl_cons; exact rfl) | exact nIm rfl | exact nSl rfl | exact nIv rfl | exact nRow rfl | exact nNil rfl | exact nPtr rfl | exact nBsh rfl | exact nBsl rfl | exact nAny rfl | exact nIIm rfl | exact nISl rfl | exact rfl)); exact rfl) | (apply d_alloc; exact rfl; exact rfl; (focus repeat' (first | exact nl_nil rfl | (apply nl_cons; exact rfl) | exact nIm rfl | exact nSl rfl | exact nIv rfl | exact nRow rfl | exact nNil rfl | exact nPtr rfl | exact nBsh rfl | exact nBsl rfl | exact nAny rfl | exact nIIm rfl | exact nISl rfl | exact rfl)); exact rfl; exact rfl) | (apply d_store; exact rfl; exact rfl; exact rfl; exact rfl; exact rfl; exact rfl; (focus repeat' (first | exact nl_nil rfl | (apply nl_cons; exact rfl) | exact nIm rfl | exact nSl rfl | exact nIv rfl | exact nRow rfl | exact nNil rfl | exact nPtr rfl | exact nBsh rfl | exact nBsl rfl | exact nAny rfl | exact nIIm rfl | exact nISl rfl | exact rfl)))) | (refine c_seq ?_) | (refine s_region ?_) | (refine d_region ?_) | (refine L.thenN ?_) | (refine L.ret ?_) | (refine L.skip ?_) | (apply c_condT; exact rfl; (first | exact rfl | assumption)) | (apply c_condF; exact rfl; (first | exact rfl | assumption))))
        all_goals (first | (apply L.ends1; exact rfl; exact rfl; exact rfl) | (apply L.ends2; exact rfl; exact rfl; exact rfl) | (apply L.ends3; exact rfl; exact rfl; exact rfl) | (apply L.ends1A; exact rfl; exact rfl; exact rfl) | (apply L.ends2A; exact rfl; exact rfl; exact rfl))
        all_goals rfl
      · subst h1; subst h2
        have w1 : (fo2.1 == fo2.1) = true := by simp
        have w2 : (fo2.2 == fo2.2) = true := by simp
        refine CallA.intro _ Try.func10 rfl Try.ntmps10 rfl (fun w0 E0 => ?_)
        (repeat' (first | (refine LW.is ?_; first | ((apply s_call0; exact rfl; exact kg; exact rfl; exact rfl)) | ((apply s_call0; exact rfl; exact c0; exact rfl; exact rfl)) | ((apply s_call0; exact rfl; exact c1; exact rfl; exact rfl)) | ((apply s_call0; exact rfl; exact c2; exact rfl; exact rfl)) | ((apply s_call0; exact rfl; exact d0; exact rfl; exact rfl)) | ((apply s_call0; exact rfl; exact d1; exact rfl; exact rfl)) | ((apply s_call0; exact rfl; exact d2; exact rfl; exact rfl)) | ((apply s_call0; exact rfl; exact z0; exact rfl; exact rfl)) | ((apply s_call0; exact rfl; exact z1; exact rfl; exact rfl)) | ((apply s_call0; exact rfl; exact z2; exact rfl; exact rfl)) | ((apply s_call0; exact rfl; exact kX; exact rfl; exact rfl)) | ((apply s_call0; exact rfl; exact kY; exact rfl; exact rfl)) | ((apply s_call0; exact rfl; exact kt; exact rfl; exact rfl)) | (refine s_nil ?_) | (apply s_mvIv; exact rfl; exact rfl) | (apply s_mvTup; exact rfl; exact rfl) | (apply s_asIv; exact rfl; exact rfl) | (apply s_loadAP; exact rfl; exact rfl; exact rfl; (focus repeat' (first | exact nl_nil rfl | (apply nl_cons; exact rfl) | exact nIm rfl | exact nSl rfl | exact nIv rfl | exact nRow rfl | exact nNil rfl | exact nPtr rfl | exact nBsh rfl | exact nBsl rfl | exact nAny rfl | exact nIIm rfl | exact nISl rfl | exact rfl)); exact rfl) | (apply s_neqI; exact rfl; exact rfl; exact rfl) | (apply s_eqlS; exact rfl; exact rfl; exact rfl) | (apply s_neqS; exact rfl; exact rfl; exact rfl) | (apply s_eqlB; exact rfl; exact rfl; exact rfl) | (apply s_not; exact rfl; exact rfl) | (apply s_extract; exact rfl; exact rfl; (apply n_some; exact rfl; (first | exact nIm rfl | exact nSl rfl | exact nIv rfl | exact nRow rfl | exact nNil rfl | exact nPtr rfl | exact nBsh rfl | exact nBsl rfl | exact nAny rfl | exact rfl))) | (apply s_box; exact rfl; exact rfl; exact rfl; (focus repeat' (first | exact nl_nil rfl | (apply nl_cons; exact rfl) | exact nIm rfl | exact nSl rfl | exact nIv rfl | exact nRow rfl | exact nNil rfl | exact nPtr rfl | exact nBsh rfl | exact nBsl rfl | exact nAny rfl | exact nIIm rfl | exact nISl rfl | exact rfl)); exact rfl; exact rfl) | (apply s_addI; exact rfl; exact rfl; exact rfl; (first | omega | decide | (dsimp only; omega)); (first | omega | decide | (dsimp only; omega))) | (apply s_subI; exact rfl; exact rfl; exact rfl; (first | omega | decide | (dsimp only; omega)); (first | omega | decide | (dsimp only; omega))) | (apply s_gdo; exact rfl; exact rfl; (first | exact rfl | assumption)) | (apply s_pickTIv; exact rfl; exact rfl; (first | exact rfl | assumption); exact rfl) | (apply s_pickFIv; exact rfl; exact rfl; (first | exact rfl | assumption); exact rfl)) | (refine DR.is ?_; first | ((apply d_call0; exact rfl; exact kp; exact rfl; exact rfl)) | ((apply d_call0; exact rfl; exact kd; exact rfl; exact rfl)) | (apply d_nil; kernel_rfl) | (apply d_mvIv; exact rfl; exact rfl) | (apply d_loadAP; exact rfl; exact rfl; exact rfl; (focus repeat' (first | exact nl_nil rfl | (apply nl_cons; exact rfl) | exact nIm rfl | exact nSl rfl | exact nIv rfl | exact nRow rfl | exact nNil rfl | exact nPtr rfl | exact nBsh rfl | exact nBsl rfl | exact nAny rfl | exact nIIm rfl | exact nISl rfl | exact rfl)); exact rfl) | (apply d_alloc; exact rfl; exact rfl; (focus repeat' (first | exact nl_nil rfl | (apply nl_cons; exact rfl) | exact nIm rfl | exact nSl rfl | exact nIv rfl | exact nRow rfl | exact nNil rfl | exact nPtr rfl | exact nBsh rfl | exact nBsl rfl | exact nAny rfl | exact nIIm rfl | exact nISl rfl | exact rfl)); exact rfl; exact rfl) | (apply d_store; exact rfl; exact rfl; exact rfl; exact rfl; exact rfl; exact rfl; (focus repeat' (first | exact nl_nil rfl | (apply nl_cons; exact rfl) | exact nIm rfl | exact nSl rfl | exact nIv rfl | exact nRow rfl | exact nNil rfl | exact nPtr rfl | exact nBsh rfl | exact nBsl rfl | exact nAny rfl | exact nIIm rfl | exact nISl rfl | exact rfl)))) | (refine c_seq ?_) | (refine s_region ?_) | (refine d_region ?_) | (refine L.thenN ?_) | (refine L.ret ?_) | (refine L.skip ?_) | (apply c_condT; exact rfl; (first | exact rfl | assumption)) | (apply c_condF; exact rfl; (first | exact rfl | assumption))))
        all_goals (first | (apply L.ends1; exact rfl; exact rfl; exact rfl) | (apply L.ends2; exact rfl; exact rfl; exact rfl) | (apply L.ends3; exact rfl; exact rfl; exact rfl) | (apply L.ends1A; exact rfl; exact rfl; exact rfl) | (apply L.ends2A; exact rfl; exact rfl; exact rfl))
        all_goals rfl
    | false =>
      rw [if_neg (by simp)] at s1 s2
      subst s1; subst s2
      have q1 : (((n2 + 1 : Nat) : Int) != ((n2 : Nat) : Int) + 1) = false := by simp
      have q2 : (((n2 : Nat) : Int) != ((n2 : Nat) : Int)) = false := by simp
      rcases hoo with hoo | ⟨hoo, h1, h2⟩
      · refine CallA.intro _ Try.func10 rfl Try.ntmps10 rfl (fun w0 E0 => ?_)
        (repeat' (first | (refine LW.is ?_; first | ((apply s_call0; exact rfl; exact kg; exact rfl; exact rfl)) | ((apply s_call0; exact rfl; exact c0; exact rfl; exact rfl)) | ((apply s_call0; exact rfl; exact c1; exact rfl; exact rfl)) | ((apply s_call0; exact rfl; exact c2; exact rfl; exact rfl)) | ((apply s_call0; exact rfl; exact d0; exact rfl; exact rfl)) | ((apply s_call0; exact rfl; exact d1; exact rfl; exact rfl)) | ((apply s_call0; exact rfl; exact d2; exact rfl; exact rfl)) | ((apply s_call0; exact rfl; exact z0; exact rfl; exact rfl)) | ((apply s_call0; exact rfl; exact z1; exact rfl; exact rfl)) | ((apply s_call0; exact rfl; exact z2; exact rfl; exact rfl)) | ((apply s_call0; exact rfl; exact kX; exact rfl; exact rfl)) | ((apply s_call0; exact rfl; exact kY; exact rfl; exact rfl)) | ((apply s_call0; exact rfl; exact kt; exact rfl; exact rfl)) | (refine s_nil ?_) | (apply s_mvIv; exact rfl; exact rfl) | (apply s_mvTup; exact rfl; exact rfl) | (apply s_asIv; exact rfl; exact rfl) | (apply s_loadAP; exact rfl; exact rfl; exact rfl; (focus repeat' (first | exact nl_nil rfl | (apply nl_cons; exact rfl) | exact nIm rfl | exact nSl rfl | exact nIv rfl | exact nRow rfl | exact nNil rfl | exact nPtr rfl | exact nBsh rfl | exact nBsl rfl | exact nAny rfl | exact nIIm rfl | exact nISl rfl | exact rfl)); exact rfl) | (apply s_neqI; exact rfl; exact rfl; exact rfl) | (apply s_eqlS; exact rfl; exact rfl; exact rfl) | (apply s_neqS; exact rfl; exact rfl; exact rfl) | (apply s_not; exact rfl; exact rfl) | (apply s_extract; exact rfl; exact rfl; (apply n_some; exact rfl; (first | exact nIm rfl | exact nSl rfl | exact nIv rfl | exact nRow rfl | exact nNil rfl | exact nPtr rfl | exact nBsh rfl | exact nBsl rfl | exact nAny rfl | exact rfl))) | (apply s_box; exact rfl; exact rfl; exact rfl; (focus repeat' (first | exact nl_nil rfl | (apply nl_cons; exact rfl) | exact nIm rfl | exact nSl rfl | exact nIv rfl | exact nRow rfl | exact nNil rfl | exact nPtr rfl | exact nBsh rfl | exact nBsl rfl | exact nAny rfl | exact nIIm rfl | exact nISl rfl | exact rfl)); exact rfl; exact rfl) | (apply s_addI; exact rfl; exact rfl; exact rfl; (first | omega | decide | (dsimp only; omega)); (first | omega | decide | (dsimp only; omega))) | (apply s_gdo; exact rfl; exact rfl; (first | exact rfl | assumption)) | (apply s_gskipF; exact rfl; exact rfl; exact rfl; (first | exact rfl | assumption)) | (apply s_gskipU; exact rfl; exact rfl; exact rfl) | (apply s_pickTIv; exact rfl; exact rfl; (first | exact rfl | assumption); exact rfl) | (apply s_pickFIv; exact rfl; exact rfl; (first | exact rfl | assumption); exact rfl)) | (refine DR.is ?_; first | ((apply d_call0; exact rfl; exact kp; exact rfl; exact rfl)) | ((apply d_call0; exact rfl; exact kd; exact rfl; exact rfl)) | (apply d_nil; kernel_rfl) | (apply d_mvIv; exact rfl; exact rfl) | (apply d_loadAP; exact rfl; exact rfl; exact rfl; (focus repeat' (first | exact nl_nil rfl | (apply nl_cons; exact rfl) | exact nIm rfl | exact nSl rfl | exact nIv rfl | exact nRow rfl | exact nNil rfl | exact nPtr rfl | exact nBsh rfl | exact nBsl rfl | exact nAny rfl | exact nIIm rfl | exact nISl rfl | exact rfl)); exact rfl) | (apply d_alloc; exact rfl; exact rfl; (focus repeat' (first | exact nl_nil rfl | (apply nl_cons; exact rfl) | exact nIm rfl | exact nSl rfl | exact nIv rfl | exact nRow rfl | exact nNil rfl | exact nPtr rfl | exact nBsh rfl | exact nBsl rfl | exact nAny rfl | exact nIIm rfl | exact nISl rfl | exact rfl)); exact rfl; exact rfl) | (apply d_store; exact rfl; exact rfl; exact rfl; exact rfl; exact rfl; exact rfl; (focus repeat' (first | exact nl_nil rfl | (apply nl_cons; exact rfl) | exact nIm rfl | exact nSl rfl | exact nIv rfl | exact nRow rfl | exact nNil rfl | exact nPtr rfl | exact nBsh rfl | exact nBsl rfl | exact nAny rfl | exact nIIm rfl | exact nISl rfl | exact rfl)))) | (refine c_seq ?_) | (refine s_region ?_) | (refine d_region ?_) | (refine L.thenN ?_) | (refine L.ret ?_) | (refine L.skip ?_) | (apply c_condF; exact rfl; (first | exact rfl | assumption))))
        all_goals (first | (apply L.ends1; exact rfl; exact rfl; exact rfl) | (apply L.ends2; exact rfl; exact rfl; exact rfl) | (apply L.ends3; exact rfl; exact rfl; exact rfl) | (apply L.ends1A; exact rfl; exact rfl; exact rfl) | (apply L.ends2A; exact rfl; exact rfl; exact rfl))
        all_goals rfl
      · subst h1; subst h2
        have w1 : (fo2.1 == fo2.1) = true := by simp
        have w2 : (fo2.2 == fo2.2) = true := by simp
        refine CallA.intro _ Try.func10 rfl Try.ntmps10 rfl (fun w0 E0 => ?_)
        (repeat' (first | (refine LW.is ?_; first | ((apply s_call0; exact rfl; exact kg; exact rfl; exact rfl)) | ((apply s_call0; exact rfl; exact c0; exact rfl; exact rfl)) | ((apply s_call0; exact rfl; exact c1; exact rfl; exact rfl)) | ((apply s_call0; exact rfl; exact c2; exact rfl; exact rfl)) | ((apply s_call0; exact rfl; exact d0; exact rfl; exact rfl)) | ((apply s_call0; exact rfl; exact d1; exact rfl; exact rfl)) | ((apply s_call0; exact rfl; exact d2; exact rfl; exact rfl)) | ((apply s_call0; exact rfl; exact z0; exact rfl; exact rfl)) | ((apply s_call0; exact rfl; exact z1; exact rfl; exact rfl)) | ((apply s_call0; exact rfl; exact z2; exact rfl; exact rfl)) | ((apply s_call0; exact rfl; exact kX; exact rfl; exact rfl)) | ((apply s_call0; exact rfl; exact kY; exact rfl; exact rfl)) | ((apply s_call0; exact rfl; exact kt; exact rfl; exact rfl)) | (refine s_nil ?_) | (apply s_mvIv; exact rfl; exact rfl) | (apply s_mvTup; exact rfl; exact rfl) | (apply s_asIv; exact rfl; exact rfl) | (apply s_loadAP; exact rfl; exact rfl; exact rfl; (focus repeat' (first | exact nl_nil rfl | (apply nl_cons; exact rfl) | exact nIm rfl | exact nSl rfl | exact nIv rfl | exact nRow rfl | exact nNil rfl | exact nPtr rfl | exact nBsh rfl | exact nBsl rfl | exact nAny rfl | exact nIIm rfl | exact nISl rfl | exact rfl)); exact rfl) | (apply s_neqI; exact rfl; exact rfl; exact rfl) | (apply s_eqlS; exact rfl; exact rfl; exact rfl) | (apply s_neqS; exact rfl; exact rfl; exact rfl) | (apply s_eqlB; exact rfl; exact rfl; exact rfl) | (apply s_not; exact rfl; exact rfl) | (apply s_extract; exact rfl; exact rfl; (apply n_some; exact rfl; (first | exact nIm rfl | exact nSl rfl | exact nIv rfl | exact nRow rfl | exact nNil rfl | exact nPtr rfl | exact nBsh rfl | exact nBsl rfl | exact nAny rfl | exact rfl))) | (apply s_box; exact rfl; exact rfl; exact rfl; (focus repeat' (first | exact nl_nil rfl | (apply nl_cons; exact rfl) | exact nIm rfl | exact nSl rfl | exact nIv rfl | exact nRow rfl | exact nNil rfl | exact nPtr rfl | exact nBsh rfl | exact nBsl rfl | exact nAny rfl | exact nIIm rfl | exact nISl rfl | exact rfl)); exact rfl; exact rfl) | (apply s_addI; exact rfl; exact rfl; exact rfl; (first | omega | decide | (dsimp only; omega)); (first | omega | decide | (dsimp only; omega))) | (apply s_gdo; exact rfl; exact rfl; (first | exact rfl | assumption)) | (apply s_pickTIv; exact rfl; exact rfl; (first | exact rfl | assumption); exact rfl) | (apply s_pickFIv; exact rfl; exact rfl; (first | exact rfl | assumption); exact rfl)) | (refine DR.is ?_; first | ((apply d_call0; exact rfl; exact kp; exact rfl; exact rfl)) | ((apply d_call0; exact rfl; exact kd; exact rfl; exact rfl)) | (apply d_nil; kernel_rfl) | (apply d_mvIv; exact rfl; exact rfl) | (apply d_loadAP; exact rfl; exact rfl; exact rfl; (focus repeat' (first | exact nl_nil rfl | (apply nl_cons; exact rfl) | exact nIm rfl | exact nSl rfl | exact nIv rfl | exact nRow rfl | exact nNil rfl | exact nPtr rfl | exact nBsh rfl | exact nBsl rfl | exact nAny rfl | exact nIIm rfl | exact nISl rfl | exact rfl)); exact rfl) | (apply d_alloc; exact rfl; exact rfl; (focus repeat' (first | exact nl_nil rfl | (apply nl_cons; exact rfl) | exact nIm rfl | exact nSl rfl | exact nIv rfl | exact nRow rfl | exact nNil rfl | exact nPtr rfl | exact nBsh rfl | exact nBsl rfl | exact nAny rfl | exact nIIm rfl | exact nISl rfl | exact rfl)); exact rfl; exact rfl) | (apply d_store; exact rfl; exact rfl; exact rfl; exact rfl; exact rfl; exact rfl; (focus repeat' (first | exact nl_nil rfl | (apply nl_cons; exact rfl) | exact nIm rfl | exact nSl rfl | exact nIv rfl | exact nRow rfl | exact nNil rfl | exact nPtr rfl | exact nBsh rfl | exact nBsl rfl | exact nAny rfl | exact nIIm rfl | exact nISl rfl | exact rfl)))) | (refine c_seq ?_) | (refine s_region ?_) | (refine d_region ?_) | (refine L.thenN ?_) | (refine L.ret ?_) | (refine L.skip ?_) | (apply c_condF; exact rfl; (first | exact rfl | assumption))))
        all_goals (first | (apply L.ends1; exact rfl; exact rfl; exact rfl) | (apply L.ends2; exact rfl; exact rfl; exact rfl) | (apply L.ends3; exact rfl; exact rfl; exact rfl) | (apply L.ends1A; exact rfl; exact rfl; exact rfl) | (apply L.ends2A; exact rfl; exact rfl; exact rfl))
        all_goals rfl
end Go.Proofs.Ytanlhpdjgelehaa
