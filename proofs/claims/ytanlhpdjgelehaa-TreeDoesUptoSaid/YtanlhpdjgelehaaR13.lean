/- Trees: what Grow, Concat and join compute. Conditions: how much there is of what comes in. -/
import Derived.Test.YtanlhpdjgelehaaR11
namespace Go.Proofs.Ytanlhpdjgelehaa
open Go.Abs
attribute [local irreducible] L Code.wp bodyPost Exit.then Exit.inBlock unr
set_option linter.unusedVariables false
set_option linter.unusedSimpArgs false

def delAt {α : Type} (l : List α) (i : Nat) : List α := l.take i ++ l.drop (i + 1)
theorem delAt_len {α : Type} {l : List α} {i : Nat} (hi : i < l.length) : (delAt l i).length = l.length - 1 := by simp [delAt]; omega
theorem delAt_map {α β : Type} (f : α → β) (l : List α) (i : Nat) : (delAt l i).map f = (l.map f).take i ++ (l.map f).drop (i + 1) := by simp [delAt, List.map_take, List.map_drop]

theorem deleteS_str (ks : List Str) (n : Nat) (hn : ks.length = n) (i : Nat) (a b : Int) (ha : a = i) (hb : b = i + 1) (hi : i < ks.length) (h2 : 2 ≤ ks.length) :
    CallA Try.prog 56 [.bsh 1000 0 n 1, aI a, aI b] [(1000, ⟨9, .r (ks.map Str.c).flatten 0⟩)] [(1001, ⟨9, .r ((delAt ks i).map Str.c).flatten 0⟩), (1000, ⟨9, .l []⟩)] [] (.bsh 1001 0 (n - 1) 1) := by
  have := deleteS_any (ks.map Str.c) i a b ha hb (lenS1 ks) (by rw [List.length_map]; exact hi) (by rw [List.length_map]; exact h2)
  rw [List.length_map, hn] at this
  rw [delAt_map]; exact this
theorem deleteS_str1 (ks : List Str) (n : Nat) (hn : ks.length = n) (i : Nat) (a b : Int) (ha : a = i) (hb : b = i + 1) (hi : i < ks.length) (h2 : ks.length = 1) :
    CallA Try.prog 56 [.bsh 1000 0 n 1, aI a, aI b] [(1000, ⟨9, .r (ks.map Str.c).flatten 0⟩)] [(1000, ⟨9, .l []⟩)] [] (.iv (.sl [])) := by
  have := deleteS_one (ks.map Str.c) i a b ha hb (lenS1 ks) (by rw [List.length_map]; exact hi) (by rw [List.length_map]; exact h2)
  rw [List.length_map, hn] at this; exact this
theorem deleteP_pg (ps : List Pg) (n : Nat) (hn : ps.length = n) (i : Nat) (a b : Int) (ha : a = i) (hb : b = i + 1) (hi : i < ps.length) (h2 : 2 ≤ ps.length) :
    CallA Try.prog 57 [.bsh 1000 0 n 2, aI a, aI b] [(1000, ⟨79, .r (ps.map Pg.c).flatten 0⟩)] [(1001, ⟨79, .r ((delAt ps i).map Pg.c).flatten 0⟩), (1000, ⟨79, .l []⟩)] [] (.bsh 1001 0 (n - 1) 2) := by
  have := deleteP_any (ps.map Pg.c) i a b ha hb (lenP2 ps) (by rw [List.length_map]; exact hi) (by rw [List.length_map]; exact h2)
  rw [List.length_map, hn] at this
  rw [delAt_map]; exact this
theorem deleteP_pg1 (ps : List Pg) (n : Nat) (hn : ps.length = n) (i : Nat) (a b : Int) (ha : a = i) (hb : b = i + 1) (hi : i < ps.length) (h2 : ps.length = 1) :
    CallA Try.prog 57 [.bsh 1000 0 n 2, aI a, aI b] [(1000, ⟨79, .r (ps.map Pg.c).flatten 0⟩)] [(1000, ⟨79, .l []⟩)] [] (.iv (.sl [])) := by
  have := deleteP_one (ps.map Pg.c) i a b ha hb (lenP2 ps) (by rw [List.length_map]; exact hi) (by rw [List.length_map]; exact h2)
  rw [List.length_map, hn] at this; exact this

set_option maxRecDepth 100000 in
set_option maxHeartbeats 4000000 in
theorem growS_nil (n : Nat) (a : Int) (ha : a = n) (hn : 0 < n) (hl : n ≤ 1000) :
    CallA Try.prog 73 [.nils, aI a] [] [(1000, ⟨9, .r [] (n * 1)⟩)] [] (.bsh 1000 0 0 1) := by
  refine CallA.intro _ Try.func73 rfl Try.ntmps73 rfl (fun w0 E0 => ?_)
  have hb : decide (a < 0) = false := by simp; omega
  have hb4 : decide ((0 : Int) < a - ((0 : Int) - ((([] : List (List IV)).length : Nat) : Int))) = true := by simp; omega
  have hz : ((([] : List (List IV)).length : Nat) : Int) = 0 := rfl
  (repeat' (first | (refine LW.is ?_; first | ((apply s_capNil; exact rfl; exact rfl)) | ((apply s_slNil; exact rfl; exact rfl; exact rfl; exact rfl)) | ((apply s_growNZ 1000 (m := n); exact rfl; exact rfl; exact rfl; omega; exact hn; (rw [maxL]; omega); omega; exact rfl; exact rfl)) | ((apply s_slBshH (n' := 0); exact rfl; exact rfl; exact rfl; exact Int.le_refl _; omega; exact rfl)) | ((apply s_subI; exact rfl; exact rfl; exact rfl; omega; omega)) | (refine s_nil ?_) | (apply s_mvIv; exact rfl; exact rfl) | (apply s_mvNil; exact rfl; exact rfl) | (apply s_mvBsh; exact rfl; exact rfl) | (apply s_asIv; exact rfl; exact rfl) | (apply s_asNil; exact rfl; exact rfl) | (apply s_asBsh; exact rfl; exact rfl) | (apply s_lenSl; exact rfl; exact rfl) | (apply s_lssI; exact rfl; exact rfl; exact rfl) | (apply s_gtrI; exact rfl; exact rfl; exact rfl)) | (refine c_seq ?_) | (refine s_region ?_) | (refine L.thenN ?_) | (refine L.ret ?_) | (refine L.skip ?_) | (apply c_condT; exact rfl; (first | exact rfl | assumption)) | (apply c_condF; exact rfl; (first | exact rfl | assumption))))
  all_goals (apply L.ends; exact rfl; exact rfl; exact Sub.refl _; exact Wk.mk' (by intro id h; simp [keys] at h) .nil (.cons rfl rfl (Subs.refl _) .nil) .nil)

set_option maxRecDepth 100000 in
set_option maxHeartbeats 4000000 in
theorem concatS_two (A B : List Str) (hA : A ≠ []) (hB : B ≠ []) (h1 : A.length ≤ 100) (h2 : B.length ≤ 100) :
    CallA Try.prog 67 [.iv (.sl [[.sl (A.map Str.c)], [.sl (B.map Str.c)]])] [] [] [] (.iv (.sl ((A ++ B).map Str.c))) := by
  have hpA : 0 < A.length := List.length_pos_iff.2 hA
  have hAB : A ++ B ≠ [] := fun h => hA (List.append_eq_nil_iff.1 h).1
  have lA : (A.map Str.c).length = A.length := List.length_map _
  have lB : (B.map Str.c).length = B.length := List.length_map _
  have hb1 : decide ((0 : Int) + (((A.map Str.c).length : Nat) : Int) < 0) = false := by (first | (simp; done) | (simp; omega))
  have hb2 : decide ((0 : Int) + (((A.map Str.c).length : Nat) : Int) + (((B.map Str.c).length : Nat) : Int) < 0) = false := by (first | (simp; done) | (simp; omega))
  have kg := growS_nil (A.length + B.length) ((0 : Int) + (((A.map Str.c).length : Nat) : Int) + (((B.map Str.c).length : Nat) : Int)) (by simp) (by omega) (by omega)
  refine CallA.intro _ Try.func67 rfl Try.ntmps67 rfl (fun w0 E0 => ?_)
  (repeat' (first | ((refine L.unroll 3 ?_)) | ((refine L.unrS ?_)) | (refine LW.is ?_; first | ((apply s_call01N; exact rfl; exact kg; exact rfl; exact rfl; exact rfl)) | ((apply s_indexA; exact rfl; exact rfl; exact rfl; decide; exact rfl; exact rfl)) | ((apply s_appendH 3000 (es := []) (n := 0) (news := A.map Str.c) (er := A.map Str.c) (nr := A.length); exact rfl; exact rfl; exact rfl; exact rfl; exact .inr (by omega); (intro e he; cases he); exact lenS1 A; exact Nat.le_refl _; exact map_ne hA; (rw [maxL]; omega); omega; exact rfl; exact rfl; (rw [List.length_map]; omega))) | ((apply s_appendH 3001 (es := A.map Str.c) (n := A.length) (news := B.map Str.c) (er := (A ++ B).map Str.c) (nr := (A ++ B).length); exact rfl; exact rfl; exact rfl; exact rfl; exact .inl (flat_ne (lenS1 A) (by decide) (map_ne hA)); exact lenS1 A; exact lenS1 B; (rw [List.length_map]; exact Nat.le_refl _); exact map_ne hB; (rw [maxL]; omega); omega; exact rfl; (rw [List.take_of_length_le (by rw [List.length_map]; exact Nat.le_refl _), List.map_append]); (rw [List.length_append, List.length_map]))) | (refine s_nil ?_) | (apply s_mvIv; exact rfl; exact rfl) | (apply s_mvBsh; exact rfl; exact rfl) | (apply s_asIv; exact rfl; exact rfl) | (apply s_asNil; exact rfl; exact rfl) | (apply s_asBsh; exact rfl; exact rfl) | (apply s_load1E; exact rfl; exact rfl; exact rfl) | (apply s_lenSl; exact rfl; exact rfl) | (apply s_lssI; exact rfl; exact rfl; exact rfl) | (apply s_addI; exact rfl; exact rfl; exact rfl; (first | omega | decide | (dsimp only; omega)); (first | omega | decide | (dsimp only; omega)))) | (refine c_seq ?_) | (refine L.block ?_) | (refine s_region ?_) | (refine L.thenN ?_) | (refine L.thenE ?_) | (refine L.inN ?_) | (refine L.inE ?_) | (refine L.ret ?_) | (refine L.exit ?_) | (refine L.skip ?_) | (apply c_condT; exact rfl; (first | exact rfl | assumption)) | (apply c_condF; exact rfl; (first | exact rfl | assumption))))
  all_goals (apply L.pubS 3001 2 (es := (A ++ B).map Str.c); exact rfl; exact rfl; exact lenS1 _; decide; exact map_ne hAB; exact List.length_map _; exact rfl; exact .here)
  all_goals (first | (apply L.ends1; exact rfl; exact rfl; exact rfl) | (apply L.ends2; exact rfl; exact rfl; exact rfl) | (apply L.ends3; exact rfl; exact rfl; exact rfl) | (apply L.ends1A; exact rfl; exact rfl; exact rfl) | (apply L.ends2A; exact rfl; exact rfl; exact rfl))
  all_goals rfl

def joinM (ps : List Pg) (p : Nat) (a b : Pg) : List Pg := delAt (ps.set p ⟨a.ks ++ b.ks, a.vs ++ b.vs⟩) (p + 1)
theorem joinM_len {ps : List Pg} {p : Nat} {a b : Pg} (h : p + 1 < ps.length) : (joinM ps p a b).length = ps.length - 1 := by
  rw [joinM, delAt_len (by simpa using h)]; simp

set_option maxRecDepth 100000 in
set_option maxHeartbeats 4000000 in
theorem join_any (ps : List Pg) (n : Nat) (hn : ps.length = n) (p : Nat) (i : Int) (hi : i = p) (a b : Pg) (ha : ps[p]? = some a) (hb : ps[p + 1]? = some b) (hak : a.ks ≠ []) (hbk : b.ks ≠ []) (hav : a.vs ≠ []) (hbv : b.vs ≠ [])
    (h1 : a.ks.length ≤ 100) (h2 : b.ks.length ≤ 100) (h3 : a.vs.length ≤ 100) (h4 : b.vs.length ≤ 100) (hl : n ≤ 4611686018427387904) :
    CallA Try.prog 58 [.ptr 1000 0, aI i] [(1000, ⟨45, .l [.bsh 1001 0 n 2]⟩), (1001, ⟨79, .r (ps.map Pg.c).flatten 0⟩)]
      [(1000, ⟨45, .l [.bsh 1002 0 (n - 1) 2]⟩), (1002, ⟨79, .r ((joinM ps p a b).map Pg.c).flatten 0⟩), (1001, ⟨79, .l []⟩)] [] (.tup []) := by
  have hp : p + 1 < ps.length := (List.getElem?_eq_some_iff.1 hb).1
  have ga : (ps.map Pg.c)[p]? = some (Pg.c a) := by rw [List.getElem?_map, ha]; rfl
  have gb : (ps.map Pg.c)[p + 1]? = some (Pg.c b) := by rw [List.getElem?_map, hb]; rfl
  have hne : ps ≠ [] := fun h => by rw [h] at hp; simp at hp
  have hsl : (ps.set p ⟨a.ks ++ b.ks, a.vs ++ b.vs⟩).length = n := by rw [List.length_set, hn]
  have h : CallA Try.prog 58 [.ptr 1000 0, aI i] [(1000, ⟨45, .l [.bsh 1001 0 n 2]⟩), (1001, ⟨79, .r (ps.map Pg.c).flatten 0⟩)]
      [(1000, ⟨45, .l [.bsh 49 0 (n - 1) 2]⟩), (49, ⟨79, .r ((joinM ps p a b).map Pg.c).flatten 0⟩), (1001, ⟨79, .l []⟩)] [] (.tup []) := by
    refine CallA.intro _ Try.func58 rfl Try.ntmps58 rfl (fun w0 E0 => ?_)
    (repeat' (first | (refine LW.is ?_; first | ((apply s_call11; exact rfl; exact deleteP_pg (ps.set p ⟨a.ks ++ b.ks, a.vs ++ b.vs⟩) n hsl (p + 1) (i + 1) (i + 2) (by omega) (by omega) (by omega) (by omega); exact rfl; exact rfl; exact flat_ne (lenP2 _) (by decide) (map_ne (by simpa using hne)); exact rfl; exact rfl)) | (refine s_nil ?_) | (apply s_mvIv; exact rfl; exact rfl) | (apply s_mvPtr; exact rfl; exact rfl) | (apply s_fieldP; exact rfl; exact rfl; exact rfl) | (apply s_load1P; exact rfl; exact rfl; exact rfl; (apply n_some; exact rfl; (first | exact nIm rfl | exact nSl rfl | exact nIv rfl | exact nRow rfl | exact nNil rfl | exact nPtr rfl | exact nBsh rfl | exact nBsl rfl | exact nAny rfl | exact rfl))) | (apply s_nilP; exact rfl; exact rfl) | (apply s_store; exact rfl; exact rfl; exact rfl; exact rfl; exact rfl; exact rfl; (focus repeat' (first | exact nl_nil rfl | (apply nl_cons; exact rfl) | exact nIm rfl | exact nSl rfl | exact nIv rfl | exact nRow rfl | exact nNil rfl | exact nPtr rfl | exact nBsh rfl | exact nBsl rfl | exact nAny rfl | exact nIIm rfl | exact nISl rfl | exact rfl))) | (apply s_addI; exact rfl; exact rfl; exact rfl; (first | omega | decide | (dsimp only; omega)); (first | omega | decide | (dsimp only; omega)))) | (refine DR.is ?_; first | ((apply d_indexBsh (off' := p * 2); exact rfl; exact rfl; exact rfl; omega; omega; omega)) | ((apply d_indexBsh (off' := (p + 1) * 2); exact rfl; exact rfl; exact rfl; omega; omega; omega)) | ((apply d_loadAR (i := p) (e := Pg.c a); exact rfl; exact rfl; exact rfl; exact lenP2 ps; omega; exact ga; exact rfl)) | ((apply d_loadAR (i := p + 1) (e := Pg.c b); exact rfl; exact rfl; exact rfl; exact lenP2 ps; omega; exact gb; exact rfl)) | ((apply d_call0; exact rfl; exact concatS_two a.ks b.ks hak hbk h1 h2; exact rfl; exact rfl)) | ((apply d_call0; exact rfl; exact concatS_two a.vs b.vs hav hbv h3 h4; exact rfl; exact rfl)) | ((apply d_storeR (i := p) (e := Pg.c ⟨a.ks ++ b.ks, a.vs ++ b.vs⟩) (er := (ps.set p ⟨a.ks ++ b.ks, a.vs ++ b.vs⟩).map Pg.c); exact rfl; exact rfl; exact rfl; exact rfl; exact rfl; exact rfl; exact lenP2 _; omega; (rw [List.length_map]; omega); exact (List.map_set ..).symm)) | (apply d_nil; kernel_rfl) | (apply d_mvIv; exact rfl; exact rfl) | (apply d_mvPtr; exact rfl; exact rfl) | (apply d_fieldP; exact rfl; exact rfl; exact rfl) | (apply d_load1P; exact rfl; exact rfl; exact rfl; (apply n_some; exact rfl; (first | exact nIm rfl | exact nSl rfl | exact nIv rfl | exact nRow rfl | exact nNil rfl | exact nPtr rfl | exact nBsh rfl | exact nBsl rfl | exact nAny rfl | exact rfl))) | (apply d_nilP; exact rfl; exact rfl) | (apply d_alloc; exact rfl; exact rfl; (focus repeat' (first | exact nl_nil rfl | (apply nl_cons; exact rfl) | exact nIm rfl | exact nSl rfl | exact nIv rfl | exact nRow rfl | exact nNil rfl | exact nPtr rfl | exact nBsh rfl | exact nBsl rfl | exact nAny rfl | exact nIIm rfl | exact nISl rfl | exact rfl)); exact rfl; exact rfl) | (apply d_build; exact rfl; exact rfl; (apply n_some; exact rfl; (focus repeat' (first | exact nl_nil rfl | (apply nl_cons; exact rfl) | exact nIm rfl | exact nSl rfl | exact nIv rfl | exact nRow rfl | exact nNil rfl | exact nPtr rfl | exact nBsh rfl | exact nBsl rfl | exact nAny rfl | exact nIIm rfl | exact nISl rfl | exact rfl)))) | (apply d_bslice; exact rfl; exact rfl; exact rfl; exact rfl; exact rfl; (apply n_some; exact rfl; (focus repeat' (first | exact nl_nil rfl | (apply nl_cons; exact rfl) | exact nIm rfl | exact nSl rfl | exact nIv rfl | exact nRow rfl | exact nNil rfl | exact nPtr rfl | exact nBsh rfl | exact nBsl rfl | exact nAny rfl | exact nIIm rfl | exact nISl rfl | exact rfl))); (apply n_some; exact rfl; (focus repeat' (first | exact nl_nil rfl | (apply nl_cons; exact rfl) | exact nIm rfl | exact nSl rfl | exact nIv rfl | exact nRow rfl | exact nNil rfl | exact nPtr rfl | exact nBsh rfl | exact nBsl rfl | exact nAny rfl | exact nIIm rfl | exact nISl rfl | exact rfl))); exact rfl; (focus repeat' (first | exact nl_nil rfl | (apply nl_cons; exact rfl) | exact nIm rfl | exact nSl rfl | exact nIv rfl | exact nRow rfl | exact nNil rfl | exact nPtr rfl | exact nBsh rfl | exact nBsl rfl | exact nAny rfl | exact nIIm rfl | exact nISl rfl | exact rfl)); exact rfl) | (apply d_store; exact rfl; exact rfl; exact rfl; exact rfl; exact rfl; exact rfl; (focus repeat' (first | exact nl_nil rfl | (apply nl_cons; exact rfl) | exact nIm rfl | exact nSl rfl | exact nIv rfl | exact nRow rfl | exact nNil rfl | exact nPtr rfl | exact nBsh rfl | exact nBsl rfl | exact nAny rfl | exact nIIm rfl | exact nISl rfl | exact rfl))) | (apply d_addI; exact rfl; exact rfl; exact rfl; (first | omega | decide | (dsimp only; omega)); (first | omega | decide | (dsimp only; omega)))) | (refine c_seq ?_) | (refine s_region ?_) | (refine d_region ?_) | (refine L.thenN ?_)))
    all_goals (apply L.endsN; exact rfl; exact rfl; exact Sub.refl _; exact Wk.mk' (by intro id h; simp [keys] at h; rcases h with rfl | rfl <;> rfl) .nil (.cons rfl rfl (Subs.refl _) (.cons rfl rfl (Subs.refl _) (.cons rfl rfl (Subs.refl _) .nil))) .nil)
  exact h.sws [(49, 1002)] rfl rfl rfl rfl rfl
end Go.Proofs.Ytanlhpdjgelehaa
