/- Several texts in one, each with its own sentence ahead of it. Conditions: each one says its own. -/
import Derived.Test.YthkobnpogigkiaaDoorZPlanKeys8
/- Tables, the document's: what IsName, ColOf, TableOf, IsTable and IsCatalog compute. Conditions: how much there is of what comes in. -/
namespace Go.Proofs.YthkobnpogigkiaaDoor
open Go.Abs
open Go.Shelf
attribute [local irreducible] L Code.wp bodyPost Exit.then Exit.inBlock
set_option linter.unusedVariables false
set_option linter.unusedSimpArgs false
theorem contains_any {gs : Globs} (m : Int) (hgm : maxG m ∈ gs) (s sub : Str) (hs : s.length < 4294967281) :
    CallG gs Tryd.prog 113 [aS s, aS sub] [] [] [] (aB (Lib.contains s sub)) := by
  refine CallG.below (v := .bool (Lib.contains s sub)) rfl ?_
  intro E w us hr hG
  rw [hr.im2]
  exact (Any.strings_Contains Tryd.lays144 ⟨s.toArray⟩ ⟨sub.toArray⟩ m w hs (hG.int hgm)).mono (by rintro e w' ⟨rfl, rfl⟩; exact ⟨rfl, Below.same⟩)
theorem trim_any {gs : Globs} (s : Str) (hs : s.length ≤ 9223372036854775807) :
    CallG gs Tryd.prog 112 [aS s, aS azS] [] [] [] (aS (Lib.trimS s azS)) := by
  refine CallG.below (v := .string ⟨(Lib.trimS s azS).toArray⟩) rfl ?_
  intro E w us hr hG
  rw [hr.im2]
  exact Any.strings_Trim_laid Tryd.lays160 (by kernel_rfl) ⟨s.toArray⟩ ⟨azS.toArray⟩ w hs (by decide) (ascii_of_all (by decide))
theorem words_text : (([32, 97, 110, 100, 32, 98, 121, 32, 99, 114, 101, 97, 116, 101, 32, 100, 101, 108, 101, 116, 101, 32, 100, 101, 115, 99, 32, 100, 114, 111, 112, 32, 102, 114].append [111, 109, 32, 105, 110, 100, 101, 120, 32, 105, 110, 115, 101, 114, 116, 32, 105, 110, 116, 32, 105, 110, 116, 111, 32, 105, 115, 32, 108, 105, 109, 105, 116, 32]).append ([109, 117, 115, 116, 32, 110, 111, 116, 32, 110, 117, 108, 108, 32, 111, 110, 32, 111, 114, 32, 111, 114, 100, 101, 114, 32, 115, 101, 108, 101, 99, 116, 32, 115].append [101, 116, 32, 116, 97, 98, 108, 101, 32, 116, 101, 120, 116, 32, 117, 112, 100, 97, 116, 101, 32, 118, 97, 108, 117, 101, 115, 32, 119, 104, 101, 114, 101, 32]) : List UInt8) = 32 :: joinW words := by
  unfold words; rfl
set_option maxRecDepth 100000 in
theorem words_textLen : (32 :: joinW words).length < 4294967281 := by rw [← words_text]; decide
set_option maxRecDepth 100000 in
set_option maxHeartbeats 4000000 in
theorem isName_any {gs : Globs} (m : Int) (hgm : maxG m ∈ gs) (s : Str) (hs : s.length ≤ 140737488355328) :
    CallG gs Tryd.prog 81 [aS s] [] [] [] (aB (namedM s)) := by
  have k1 := trim_any (gs := gs) s (by omega)
  have k2 := contains_any m hgm (32 :: joinW words) ([32] ++ s ++ [32]) words_textLen
  rw [← words_text] at k2
  have hR := isNameR_eq s
  rw [isNameR, ← words_text] at hR
  rw [← hR]
  refine CallG.intro _ Tryd.func81 rfl Tryd.ntmps81 rfl (fun w0 E0 hG => ?_)
  cases h1 : !(s == []) with
  | false =>
    (repeat' (first | (refine LW.is ?_; first | (refine s_nil ?_) | (apply s_mvIv; exact rfl; exact rfl) | (apply s_asIv; exact rfl; exact rfl) | (apply s_neqS; exact rfl; exact rfl; exact rfl) | (apply s_gskipT; exact rfl; exact rfl; exact rfl; (first | exact rfl | assumption)) | (apply s_pickFIv; exact rfl; exact rfl; (first | exact rfl | assumption); exact rfl)) | (refine c_seq ?_) | (refine s_region ?_) | (refine L.thenN ?_) | (refine L.ret ?_)))
    all_goals (first | (apply L.ends1; exact rfl; exact rfl; exact rfl) | (apply L.ends2; exact rfl; exact rfl; exact rfl) | (apply L.ends3; exact rfl; exact rfl; exact rfl) | (apply L.ends1A; exact rfl; exact rfl; exact rfl) | (apply L.ends2A; exact rfl; exact rfl; exact rfl))
    all_goals simp
  | true =>
    cases h2 : decide ((s.length : Int) < 9) with
    | false =>
      (repeat' (first | (refine LW.is ?_; first | (refine s_nil ?_) | (apply s_mvIv; exact rfl; exact rfl) | (apply s_asIv; exact rfl; exact rfl) | (apply s_lenS; exact rfl; exact rfl) | (apply s_lssI; exact rfl; exact rfl; exact rfl) | (apply s_neqS; exact rfl; exact rfl; exact rfl) | (apply s_gdo; exact rfl; exact rfl; (first | exact rfl | assumption)) | (apply s_gskipT; exact rfl; exact rfl; exact rfl; (first | exact rfl | assumption)) | (apply s_pickTIv; exact rfl; exact rfl; (first | exact rfl | assumption); exact rfl) | (apply s_pickFIv; exact rfl; exact rfl; (first | exact rfl | assumption); exact rfl)) | (refine c_seq ?_) | (refine s_region ?_) | (refine L.thenN ?_) | (refine L.ret ?_)))
      all_goals (first | (apply L.ends1; exact rfl; exact rfl; exact rfl) | (apply L.ends2; exact rfl; exact rfl; exact rfl) | (apply L.ends3; exact rfl; exact rfl; exact rfl) | (apply L.ends1A; exact rfl; exact rfl; exact rfl) | (apply L.ends2A; exact rfl; exact rfl; exact rfl))
      all_goals simp
    | true =>
      cases h3 : Lib.trimS s azS == [] with
      | false =>
        (repeat' (first | (refine LW.is ?_; first | ((apply s_callG; exact rfl; exact hG; exact k1; exact rfl; exact rfl)) | (refine s_nil ?_) | (apply s_mvIv; exact rfl; exact rfl) | (apply s_asIv; exact rfl; exact rfl) | (apply s_lenS; exact rfl; exact rfl) | (apply s_lssI; exact rfl; exact rfl; exact rfl) | (apply s_eqlS; exact rfl; exact rfl; exact rfl) | (apply s_neqS; exact rfl; exact rfl; exact rfl) | (apply s_gdo; exact rfl; exact rfl; (first | exact rfl | assumption)) | (apply s_gskipT; exact rfl; exact rfl; exact rfl; (first | exact rfl | assumption)) | (apply s_pickTIv; exact rfl; exact rfl; (first | exact rfl | assumption); exact rfl) | (apply s_pickFIv; exact rfl; exact rfl; (first | exact rfl | assumption); exact rfl)) | (refine c_seq ?_) | (refine s_region ?_) | (refine L.thenN ?_) | (refine L.ret ?_)))
        all_goals (first | (apply L.ends1; exact rfl; exact rfl; exact rfl) | (apply L.ends2; exact rfl; exact rfl; exact rfl) | (apply L.ends3; exact rfl; exact rfl; exact rfl) | (apply L.ends1A; exact rfl; exact rfl; exact rfl) | (apply L.ends2A; exact rfl; exact rfl; exact rfl))
        all_goals simp
      | true =>
        (repeat' (first | (refine LW.is ?_; first | ((apply s_callG; exact rfl; exact hG; exact k1; exact rfl; exact rfl)) | ((apply s_callG; exact rfl; exact hG; exact k2; exact rfl; exact rfl)) | (refine s_nil ?_) | (apply s_mvIv; exact rfl; exact rfl) | (apply s_asIv; exact rfl; exact rfl) | (apply s_lenS; exact rfl; exact rfl) | (apply s_lssI; exact rfl; exact rfl; exact rfl) | (apply s_eqlS; exact rfl; exact rfl; exact rfl) | (apply s_neqS; exact rfl; exact rfl; exact rfl) | (apply s_not; exact rfl; exact rfl) | (apply s_addS; exact rfl; exact rfl; exact rfl; (first | omega | (dsimp only; omega) | (simp; done) | (simp; omega))) | (apply s_gdo; exact rfl; exact rfl; (first | exact rfl | assumption)) | (apply s_pickTIv; exact rfl; exact rfl; (first | exact rfl | assumption); exact rfl)) | (refine c_seq ?_) | (refine s_region ?_) | (refine L.thenN ?_) | (refine L.ret ?_)))
        all_goals (first | (apply L.ends1; exact rfl; exact rfl; exact rfl) | (apply L.ends2; exact rfl; exact rfl; exact rfl) | (apply L.ends3; exact rfl; exact rfl; exact rfl) | (apply L.ends1A; exact rfl; exact rfl; exact rfl) | (apply L.ends2A; exact rfl; exact rfl; exact rfl))
        all_goals rfl
set_option maxRecDepth 100000 in
set_option maxHeartbeats 4000000 in
theorem colOf_any (t : Tab) (name : Str) (hl : t.cols.length ≤ 140737488355328) :
    CallA Tryd.prog 32 [.agg (t.c.map .iv), aS name] [] [] [] (aI (colM t name)) := by
  refine CallA.intro _ Tryd.func32 rfl Tryd.ntmps32 rfl (fun w0 E0 => ?_)
  (repeat' (first | (refine LW.is ?_; first | (refine s_nil ?_) | (apply s_mvIv; exact rfl; exact rfl) | (apply s_asIv; exact rfl; exact rfl) | (apply s_fieldP; exact rfl; exact rfl; exact rfl) | (apply s_load1P; exact rfl; exact rfl; exact rfl; (apply n_some; exact rfl; (first | exact nIm rfl | exact nSl rfl | exact nIv rfl | exact nRow rfl | exact nNil rfl | exact nPtr rfl | exact nBsh rfl | exact nBsl rfl | exact nAny rfl | exact rfl))) | (apply s_lenSl; exact rfl; exact rfl) | (apply s_box; exact rfl; exact rfl; exact rfl; (focus repeat' (first | exact nl_nil rfl | (apply nl_cons; exact rfl) | exact nIm rfl | exact nSl rfl | exact nIv rfl | exact nRow rfl | exact nNil rfl | exact nPtr rfl | exact nBsh rfl | exact nBsl rfl | exact nAny rfl | exact nIIm rfl | exact nISl rfl | exact rfl)); exact rfl; exact rfl)) | (refine c_seq ?_) | (refine L.block ?_) | (refine s_region ?_) | (refine L.thenN ?_)))
  refine L.loopP (ι := Nat) (fun i => ⟨[(9, aI (i : Int)), (8, aI ((t.cols.map Col.c).length : Int)), (2, .ptr 2 0), (1, aS name)], [(2, ⟨43, .l [aS t.n, .iv (.sl (t.cols.map Col.c))]⟩)], []⟩) (fun i => t.cols.length - i) (fun i => ∀ y ∈ t.cols.take i, (y.n == name) = false) (i0 := 0) ?_ (by simp) ?_
  · (refine Wk.mk' (by intro id h; cases h) ?_ ?_ ?_ <;> repeat' (first | exact WkF.nil | exact WkB.nil | exact WkT.nil | (refine WkF.cons rfl (Sub.refl _) ?_) | (refine WkB.cons rfl rfl (Subs.refl _) ?_) | (refine WkT.cons rfl ?_)))
  intro i hI K hK
  cases hx : t.cols[i]? with
  | none =>
    have hlt := ltF (l := t.cols.map Col.c) (getFN hx)
    (repeat' (first | (refine LW.is ?_; first | (refine s_nil ?_) | (apply s_asIv; exact rfl; exact rfl) | (apply s_lssI; exact rfl; exact rfl; exact rfl)) | (refine c_seq ?_) | (refine s_region ?_) | (refine L.thenN ?_) | (refine L.thenE ?_) | (refine L.inE ?_) | (refine L.ret ?_) | (refine L.exit ?_) | (apply c_condF; exact rfl; (first | exact rfl | assumption))))
    all_goals (first | (apply L.ends1; exact rfl; exact rfl; exact rfl) | (apply L.ends2; exact rfl; exact rfl; exact rfl) | (apply L.ends3; exact rfl; exact rfl; exact rfl) | (apply L.ends1A; exact rfl; exact rfl; exact rfl) | (apply L.ends2A; exact rfl; exact rfl; exact rfl))
    rw [colM, idx_no (take_full hI hx)]
  | some y =>
    have hlt := ltT (l := t.cols.map Col.c) (getF (f := Col.c) hx)
    have hlt' := ltN hx
    have g1 : (t.cols.map Col.c)[((i : Nat) : Int).toNat]? = some [S y.n, I y.t, .im (.bool y.m)] := by rw [Int.toNat_natCast, List.getElem?_map, hx]; rfl
    cases hq : (y.n == name) with
    | true =>
      (repeat' (first | (refine LW.is ?_; first | ((apply s_indexA; exact rfl; exact rfl; exact rfl; omega; exact g1; exact rfl)) | (refine s_nil ?_) | (apply s_mvIv; exact rfl; exact rfl) | (apply s_asIv; exact rfl; exact rfl) | (apply s_fieldP; exact rfl; exact rfl; exact rfl) | (apply s_fieldE; exact rfl; exact rfl; exact rfl) | (apply s_load1P; exact rfl; exact rfl; exact rfl; (apply n_some; exact rfl; (first | exact nIm rfl | exact nSl rfl | exact nIv rfl | exact nRow rfl | exact nNil rfl | exact nPtr rfl | exact nBsh rfl | exact nBsl rfl | exact nAny rfl | exact rfl))) | (apply s_load1E; exact rfl; exact rfl; exact rfl) | (apply s_lssI; exact rfl; exact rfl; exact rfl) | (apply s_eqlS; exact rfl; exact rfl; exact rfl)) | (refine c_seq ?_) | (refine L.block ?_) | (refine s_region ?_) | (refine L.thenN ?_) | (refine L.thenR ?_) | (refine L.inR ?_) | (refine L.ret ?_) | (refine L.skip ?_) | (apply c_condT; exact rfl; (first | exact rfl | assumption))))
      all_goals (first | (apply L.ends1; exact rfl; exact rfl; exact rfl) | (apply L.ends2; exact rfl; exact rfl; exact rfl) | (apply L.ends3; exact rfl; exact rfl; exact rfl) | (apply L.ends1A; exact rfl; exact rfl; exact rfl) | (apply L.ends2A; exact rfl; exact rfl; exact rfl))
      rw [colM, idx_at (p := fun c : Col => c.n == name) hI hx hq]
    | false =>
      (repeat' (first | (refine LW.is ?_; first | ((apply s_indexA; exact rfl; exact rfl; exact rfl; omega; exact g1; exact rfl)) | (refine s_nil ?_) | (apply s_mvIv; exact rfl; exact rfl) | (apply s_asIv; exact rfl; exact rfl) | (apply s_fieldP; exact rfl; exact rfl; exact rfl) | (apply s_fieldE; exact rfl; exact rfl; exact rfl) | (apply s_load1P; exact rfl; exact rfl; exact rfl; (apply n_some; exact rfl; (first | exact nIm rfl | exact nSl rfl | exact nIv rfl | exact nRow rfl | exact nNil rfl | exact nPtr rfl | exact nBsh rfl | exact nBsl rfl | exact nAny rfl | exact rfl))) | (apply s_load1E; exact rfl; exact rfl; exact rfl) | (apply s_lssI; exact rfl; exact rfl; exact rfl) | (apply s_eqlS; exact rfl; exact rfl; exact rfl) | (apply s_addI; exact rfl; exact rfl; exact rfl; (first | omega | decide | (dsimp only; omega)); (first | omega | decide | (dsimp only; omega)))) | (refine c_seq ?_) | (refine L.block ?_) | (refine s_region ?_) | (refine L.thenN ?_) | (refine L.inN ?_) | (refine L.skip ?_) | (apply c_condT; exact rfl; (first | exact rfl | assumption)) | (apply c_condF; exact rfl; (first | exact rfl | assumption))))
      refine hK _ (i + 1) (take_snoc (p := fun c : Col => c.n == name) hI hx hq) (by omega) ?_
      (refine Wk.mk' (by intro id h; cases h) ?_ ?_ ?_ <;> repeat' (first | exact WkF.nil | exact WkB.nil | exact WkT.nil | (refine WkF.cons rfl (Sub.refl _) ?_) | (refine WkB.cons rfl rfl (Subs.refl _) ?_) | (refine WkT.cons rfl ?_)))
set_option maxRecDepth 100000 in
set_option maxHeartbeats 4000000 in
theorem tableOf_any (c : Cat) (name : Str) (hl : c.ts.length ≤ 140737488355328) :
    CallA Tryd.prog 27 [.agg (c.c.map .iv), aS name] [] [] [] (.tup [.agg ((findT c name).1.c.map .iv), .iv (B (findT c name).2)]) := by
  refine CallA.intro _ Tryd.func27 rfl Tryd.ntmps27 rfl (fun w0 E0 => ?_)
  (repeat' (first | (refine LW.is ?_; first | (refine s_nil ?_) | (apply s_mvIv; exact rfl; exact rfl) | (apply s_asIv; exact rfl; exact rfl) | (apply s_fieldP; exact rfl; exact rfl; exact rfl) | (apply s_load1P; exact rfl; exact rfl; exact rfl; (apply n_some; exact rfl; (first | exact nIm rfl | exact nSl rfl | exact nIv rfl | exact nRow rfl | exact nNil rfl | exact nPtr rfl | exact nBsh rfl | exact nBsl rfl | exact nAny rfl | exact rfl))) | (apply s_lenSl; exact rfl; exact rfl) | (apply s_box; exact rfl; exact rfl; exact rfl; (focus repeat' (first | exact nl_nil rfl | (apply nl_cons; exact rfl) | exact nIm rfl | exact nSl rfl | exact nIv rfl | exact nRow rfl | exact nNil rfl | exact nPtr rfl | exact nBsh rfl | exact nBsl rfl | exact nAny rfl | exact nIIm rfl | exact nISl rfl | exact rfl)); exact rfl; exact rfl) | (apply s_alloc; exact rfl; exact rfl; (focus repeat' (first | exact nl_nil rfl | (apply nl_cons; exact rfl) | exact nIm rfl | exact nSl rfl | exact nIv rfl | exact nRow rfl | exact nNil rfl | exact nPtr rfl | exact nBsh rfl | exact nBsl rfl | exact nAny rfl | exact nIIm rfl | exact nISl rfl | exact rfl)); exact rfl; exact rfl)) | (refine c_seq ?_) | (refine L.block ?_) | (refine s_region ?_) | (refine L.thenN ?_)))
  refine L.loopP (ι := Nat) (fun i => ⟨[(10, aI (i : Int)), (9, aI ((c.ts.map Tab.c).length : Int)), (2, .ptr 2 0), (1, aS name), (4, .ptr 4 0)], [(2, ⟨25, .l [.iv (.sl (c.ts.map Tab.c)), .iv (.sl (c.is.map Idx.c))]⟩), (4, ⟨43, .l [.iv (S []), .nils]⟩)], []⟩) (fun i => c.ts.length - i) (fun i => c.ts.find? (fun t => t.n == name) = (c.ts.drop i).find? (fun t => t.n == name)) (i0 := 0) ?_ rfl ?_
  · (refine Wk.mk' (by intro id h; cases h) ?_ ?_ ?_ <;> repeat' (first | exact WkF.nil | exact WkB.nil | exact WkT.nil | (refine WkF.cons rfl (Sub.refl _) ?_) | (refine WkB.cons rfl rfl (Subs.refl _) ?_) | (refine WkT.cons rfl ?_)))
  intro i hI K hK
  cases hx : c.ts[i]? with
  | none =>
    have hlt := ltF (l := c.ts.map Tab.c) (getFN hx)
    rw [dropN hx] at hI
    have e : findT c name = (⟨[], []⟩, false) := by rw [findT, hI]; rfl
    rw [e]
    (repeat' (first | (refine LW.is ?_; first | (refine s_nil ?_) | (apply s_asIv; exact rfl; exact rfl) | (apply s_lssI; exact rfl; exact rfl; exact rfl) | (apply s_build; exact rfl; exact rfl; (apply n_some; exact rfl; (focus repeat' (first | exact nl_nil rfl | (apply nl_cons; exact rfl) | exact nIm rfl | exact nSl rfl | exact nIv rfl | exact nRow rfl | exact nNil rfl | exact nPtr rfl | exact nBsh rfl | exact nBsl rfl | exact nAny rfl | exact nIIm rfl | exact nISl rfl | exact rfl)))) | (apply s_store; exact rfl; exact rfl; exact rfl; exact rfl; exact rfl; exact rfl; (focus repeat' (first | exact nl_nil rfl | (apply nl_cons; exact rfl) | exact nIm rfl | exact nSl rfl | exact nIv rfl | exact nRow rfl | exact nNil rfl | exact nPtr rfl | exact nBsh rfl | exact nBsl rfl | exact nAny rfl | exact nIIm rfl | exact nISl rfl | exact rfl)))) | (refine c_seq ?_) | (refine s_region ?_) | (refine L.thenN ?_) | (refine L.thenE ?_) | (refine L.inE ?_) | (refine L.ret ?_) | (refine L.exit ?_) | (apply c_condF; exact rfl; (first | exact rfl | assumption))))
    all_goals (first | (apply L.ends1; exact rfl; exact rfl; exact rfl) | (apply L.ends2; exact rfl; exact rfl; exact rfl) | (apply L.ends3; exact rfl; exact rfl; exact rfl) | (apply L.ends1A; exact rfl; exact rfl; exact rfl) | (apply L.ends2A; exact rfl; exact rfl; exact rfl))
    all_goals rfl
  | some t =>
    have hlt := ltT (l := c.ts.map Tab.c) (getF (f := Tab.c) hx)
    have hlt' := ltN hx
    have g1 : (c.ts.map Tab.c)[((i : Nat) : Int).toNat]? = some [S t.n, .sl (t.cols.map Col.c)] := by rw [Int.toNat_natCast, List.getElem?_map, hx]; rfl
    rw [dropC hx, List.find?_cons] at hI
    cases hq : (t.n == name) with
    | true =>
      have e : findT c name = (t, true) := by rw [findT, hI, hq]
      rw [e]
      (repeat' (first | (refine LW.is ?_; first | ((apply s_indexA; exact rfl; exact rfl; exact rfl; omega; exact g1; exact rfl)) | (refine s_nil ?_) | (apply s_mvIv; exact rfl; exact rfl) | (apply s_asIv; exact rfl; exact rfl) | (apply s_fieldP; exact rfl; exact rfl; exact rfl) | (apply s_fieldE; exact rfl; exact rfl; exact rfl) | (apply s_load1P; exact rfl; exact rfl; exact rfl; (apply n_some; exact rfl; (first | exact nIm rfl | exact nSl rfl | exact nIv rfl | exact nRow rfl | exact nNil rfl | exact nPtr rfl | exact nBsh rfl | exact nBsl rfl | exact nAny rfl | exact rfl))) | (apply s_load1E; exact rfl; exact rfl; exact rfl) | (apply s_loadAE; exact rfl; exact rfl; (focus repeat' (first | exact nl_nil rfl | (apply nl_cons; exact rfl) | exact nIm rfl | exact nSl rfl | exact nIv rfl | exact nRow rfl | exact nNil rfl | exact nPtr rfl | exact nBsh rfl | exact nBsl rfl | exact nAny rfl | exact nIIm rfl | exact nISl rfl | exact rfl)); exact rfl) | (apply s_lssI; exact rfl; exact rfl; exact rfl) | (apply s_eqlS; exact rfl; exact rfl; exact rfl) | (apply s_store; exact rfl; exact rfl; exact rfl; exact rfl; exact rfl; exact rfl; (focus repeat' (first | exact nl_nil rfl | (apply nl_cons; exact rfl) | exact nIm rfl | exact nSl rfl | exact nIv rfl | exact nRow rfl | exact nNil rfl | exact nPtr rfl | exact nBsh rfl | exact nBsl rfl | exact nAny rfl | exact nIIm rfl | exact nISl rfl | exact rfl)))) | (refine c_seq ?_) | (refine L.block ?_) | (refine s_region ?_) | (refine L.thenN ?_) | (refine L.thenR ?_) | (refine L.inR ?_) | (refine L.ret ?_) | (refine L.skip ?_) | (apply c_condT; exact rfl; (first | exact rfl | assumption))))
      all_goals (first | (apply L.ends1; exact rfl; exact rfl; exact rfl) | (apply L.ends2; exact rfl; exact rfl; exact rfl) | (apply L.ends3; exact rfl; exact rfl; exact rfl) | (apply L.ends1A; exact rfl; exact rfl; exact rfl) | (apply L.ends2A; exact rfl; exact rfl; exact rfl))
      all_goals rfl
    | false =>
      rw [hq] at hI
      (repeat' (first | (refine LW.is ?_; first | ((apply s_indexA; exact rfl; exact rfl; exact rfl; omega; exact g1; exact rfl)) | (refine s_nil ?_) | (apply s_mvIv; exact rfl; exact rfl) | (apply s_asIv; exact rfl; exact rfl) | (apply s_fieldP; exact rfl; exact rfl; exact rfl) | (apply s_fieldE; exact rfl; exact rfl; exact rfl) | (apply s_load1P; exact rfl; exact rfl; exact rfl; (apply n_some; exact rfl; (first | exact nIm rfl | exact nSl rfl | exact nIv rfl | exact nRow rfl | exact nNil rfl | exact nPtr rfl | exact nBsh rfl | exact nBsl rfl | exact nAny rfl | exact rfl))) | (apply s_load1E; exact rfl; exact rfl; exact rfl) | (apply s_lssI; exact rfl; exact rfl; exact rfl) | (apply s_eqlS; exact rfl; exact rfl; exact rfl) | (apply s_addI; exact rfl; exact rfl; exact rfl; (first | omega | decide | (dsimp only; omega)); (first | omega | decide | (dsimp only; omega)))) | (refine c_seq ?_) | (refine L.block ?_) | (refine s_region ?_) | (refine L.thenN ?_) | (refine L.inN ?_) | (refine L.skip ?_) | (apply c_condT; exact rfl; (first | exact rfl | assumption)) | (apply c_condF; exact rfl; (first | exact rfl | assumption))))
      refine hK _ (i + 1) hI (by omega) ?_
      (refine Wk.mk' (by intro id h; cases h) ?_ ?_ ?_ <;> repeat' (first | exact WkF.nil | exact WkB.nil | exact WkT.nil | (refine WkF.cons rfl (Sub.refl _) ?_) | (refine WkB.cons rfl rfl (Subs.refl _) ?_) | (refine WkT.cons rfl ?_)))
theorem all_step {α : Type} (p : α × Nat → Bool) {l : List α} {i : Nat} {x : α} (h : l[i]? = some x) : (l.take (i + 1)).zipIdx.all p = ((l.take i).zipIdx.all p && p (x, i)) := by
  have hi := (List.getElem?_eq_some_iff.1 h).1
  rw [List.take_add_one, h, List.zipIdx_append]
  simp only [Option.toList_some, List.zipIdx_singleton, List.all_append, List.all_cons, List.all_nil, Bool.and_true, List.length_take]
  rw [Nat.min_eq_left (by omega), Nat.zero_add]
set_option maxRecDepth 100000 in
set_option maxHeartbeats 8000000 in
theorem isTable_any {gs : Globs} (m : Int) (hgm : maxG m ∈ gs) (t : Tab) (hok : t.Ok) : CallG gs Tryd.prog 80 [.agg (t.c.map .iv)] [] [] [] (aB (goodTabM t)) := by
  have kn := isName_any m hgm t.n hok.n
  obtain ⟨hn, hl, hcn⟩ := hok
  rw [← isTabR_eq, isTabR]
  refine CallG.intro _ Tryd.func80 rfl Tryd.ntmps80 rfl (fun w0 E0 hG => ?_)
  have e1 : decide ((0 : Int) < ((t.cols.map Col.c).length : Int)) = decide (0 < t.cols.length) := decide_eq_decide.2 (by rw [List.length_map]; omega)
  have e2 : decide (((t.cols.map Col.c).length : Int) < 5) = decide (t.cols.length < 5) := decide_eq_decide.2 (by rw [List.length_map]; omega)
  generalize hb0 : (namedM t.n && (decide (0 < t.cols.length) && decide (t.cols.length < 5))) = b0
  (repeat' (first | (refine LW.is ?_; first | ((apply s_callG; exact rfl; exact hG; exact kn; exact rfl; exact rfl)) | (refine s_nil ?_) | (apply s_mvIv; exact rfl; exact rfl) | (apply s_asIv; exact rfl; exact rfl) | (apply s_fieldP; exact rfl; exact rfl; exact rfl) | (apply s_load1P; exact rfl; exact rfl; exact rfl; (apply n_some; exact rfl; (first | exact nIm rfl | exact nSl rfl | exact nIv rfl | exact nRow rfl | exact nNil rfl | exact nPtr rfl | exact nBsh rfl | exact nBsl rfl | exact nAny rfl | exact rfl))) | (apply s_lenSl; exact rfl; exact rfl) | (apply s_lssI; exact rfl; exact rfl; exact rfl) | (apply s_gtrI; exact rfl; exact rfl; exact rfl) | (apply s_box; exact rfl; exact rfl; exact rfl; (focus repeat' (first | exact nl_nil rfl | (apply nl_cons; exact rfl) | exact nIm rfl | exact nSl rfl | exact nIv rfl | exact nRow rfl | exact nNil rfl | exact nPtr rfl | exact nBsh rfl | exact nBsl rfl | exact nAny rfl | exact nIIm rfl | exact nISl rfl | exact rfl)); exact rfl; exact rfl) | (apply s_gdo; exact rfl; exact rfl; (first | exact rfl | assumption)) | (apply s_gskipT; exact rfl; exact rfl; exact rfl; (first | exact rfl | assumption)) | (apply s_pickTIv; exact rfl; exact rfl; (first | exact rfl | assumption); exact rfl) | (apply s_pickFIv; exact rfl; exact rfl; (first | exact rfl | assumption); exact rfl) | (refine s_gsplit rfl rfl rfl (fun hb => ?_) (fun hb => ?_) <;> (have hp := hb; try simp only [decide_eq_true_eq, decide_eq_false_iff_not, beq_iff_eq, beq_eq_false_iff_ne, bne_iff_ne, bne_eq_false_iff_eq, ne_eq, Bool.not_eq_true, Bool.not_eq_false, Bool.not_eq_eq_eq_not, Bool.not_true, Bool.not_false, Bool.or_eq_true, Bool.or_eq_false_iff, Bool.and_eq_true, Bool.and_eq_false_iff, Int.not_lt, Int.not_le] at hp))) | (refine c_seq ?_) | (refine L.block ?_) | (refine s_region ?_) | (refine L.thenN ?_)))
  all_goals (
    refine L.loopP (ι := Nat) (fun i => ⟨[(24, aI (i : Int)), (23, aI ((t.cols.map Col.c).length : Int)), (22, .iv (.sl (t.cols.map Col.c))), (1, .ptr 1 0), (3, aB (b0 && (t.cols.take i).zipIdx.all (fun p => colR t p.2 p.1)))], [(1, ⟨43, .l [aS t.n, .iv (.sl (t.cols.map Col.c))]⟩)], []⟩) (fun i => t.cols.length - i) (fun i => True) (i0 := 0) ?_ trivial ?_
    · refine Wk.mk' (by intro id h; cases h) (.cons rfl (Sub.refl _) (.cons rfl (Sub.refl _) (.cons rfl (Sub.refl _) (.cons rfl (Sub.refl _) (.cons rfl (Sub.of_eq (congrArg aB ?_)) .nil))))) (.cons rfl rfl (Subs.refl _) .nil) .nil
      simp only [List.take_zero, List.zipIdx_nil, List.all_nil, Bool.and_true]
      rw [← hb0, ← e1, ← e2]
      clear e1 e2 hb0
      (first | (simp only [*, Bool.true_and, Bool.and_true, Bool.false_or, Bool.or_false, Bool.or_true, Bool.true_or, Bool.false_and, Bool.and_false, Bool.not_true, Bool.not_false, decide_true, decide_false]; done) | (simp only [*, Bool.true_and, Bool.and_true, Bool.false_or, Bool.or_false, Bool.or_true, Bool.true_or, Bool.false_and, Bool.and_false, Bool.not_true, Bool.not_false, decide_true, decide_false]; simp; done) | (simp [*]; done) | (simp_all; done))
    intro i _ K hK
    cases hx : t.cols[i]? with
    | none =>
      have hlt := ltF (l := t.cols.map Col.c) (getFN hx)
      rw [take_all hx]
      (repeat' (first | (refine LW.is ?_; first | (refine s_nil ?_) | (apply s_mvIv; exact rfl; exact rfl) | (apply s_asIv; exact rfl; exact rfl) | (apply s_lssI; exact rfl; exact rfl; exact rfl)) | (refine c_seq ?_) | (refine s_region ?_) | (refine L.thenN ?_) | (refine L.thenE ?_) | (refine L.inE ?_) | (refine L.ret ?_) | (refine L.exit ?_) | (apply c_condF; exact rfl; (first | exact rfl | assumption))))
      all_goals (first | (apply L.ends1; exact rfl; exact rfl; exact rfl) | (apply L.ends2; exact rfl; exact rfl; exact rfl) | (apply L.ends3; exact rfl; exact rfl; exact rfl) | (apply L.ends1A; exact rfl; exact rfl; exact rfl) | (apply L.ends2A; exact rfl; exact rfl; exact rfl))
      all_goals rfl
    | some y =>
      have hlt := ltT (l := t.cols.map Col.c) (getF (f := Col.c) hx)
      have hlt' := ltN hx
      have g1 : (t.cols.map Col.c)[((i : Nat) : Int).toNat]? = some [S y.n, I y.t, .im (.bool y.m)] := by rw [Int.toNat_natCast, List.getElem?_map, hx]; rfl
      have ky := isName_any m hgm y.n (hcn y (List.mem_of_getElem? hx))
      have kf := colOf_any t y.n hl
      have hst := all_step (fun p => colR t p.2 p.1) hx
      generalize hB : (b0 && (t.cols.take i).zipIdx.all (fun p => colR t p.2 p.1)) = B
      have hst2 : (b0 && (t.cols.take (i + 1)).zipIdx.all (fun p => colR t p.2 p.1)) = (B && colR t i y) := by rw [hst, ← Bool.and_assoc, hB]
      clear hst hB
      cases B
      all_goals (repeat' (first | (refine LW.is ?_; first | ((apply s_indexA; exact rfl; exact rfl; exact rfl; omega; exact g1; exact rfl)) | ((apply s_callG; exact rfl; exact hG; exact ky; exact rfl; exact rfl)) | ((apply s_call0; exact rfl; exact kf; exact rfl; exact rfl)) | (refine s_nil ?_) | (apply s_mvIv; exact rfl; exact rfl) | (apply s_asIv; exact rfl; exact rfl) | (apply s_fieldP; exact rfl; exact rfl; exact rfl) | (apply s_load1P; exact rfl; exact rfl; exact rfl; (apply n_some; exact rfl; (first | exact nIm rfl | exact nSl rfl | exact nIv rfl | exact nRow rfl | exact nNil rfl | exact nPtr rfl | exact nBsh rfl | exact nBsl rfl | exact nAny rfl | exact rfl))) | (apply s_loadAP; exact rfl; exact rfl; exact rfl; (focus repeat' (first | exact nl_nil rfl | (apply nl_cons; exact rfl) | exact nIm rfl | exact nSl rfl | exact nIv rfl | exact nRow rfl | exact nNil rfl | exact nPtr rfl | exact nBsh rfl | exact nBsl rfl | exact nAny rfl | exact nIIm rfl | exact nISl rfl | exact rfl)); exact rfl) | (apply s_loadAE; exact rfl; exact rfl; (focus repeat' (first | exact nl_nil rfl | (apply nl_cons; exact rfl) | exact nIm rfl | exact nSl rfl | exact nIv rfl | exact nRow rfl | exact nNil rfl | exact nPtr rfl | exact nBsh rfl | exact nBsl rfl | exact nAny rfl | exact nIIm rfl | exact nISl rfl | exact rfl)); exact rfl) | (apply s_eqlI; exact rfl; exact rfl; exact rfl) | (apply s_lssI; exact rfl; exact rfl; exact rfl) | (apply s_gtrI; exact rfl; exact rfl; exact rfl) | (apply s_alloc; exact rfl; exact rfl; (focus repeat' (first | exact nl_nil rfl | (apply nl_cons; exact rfl) | exact nIm rfl | exact nSl rfl | exact nIv rfl | exact nRow rfl | exact nNil rfl | exact nPtr rfl | exact nBsh rfl | exact nBsl rfl | exact nAny rfl | exact nIIm rfl | exact nISl rfl | exact rfl)); exact rfl; exact rfl) | (apply s_store; exact rfl; exact rfl; exact rfl; exact rfl; exact rfl; exact rfl; (focus repeat' (first | exact nl_nil rfl | (apply nl_cons; exact rfl) | exact nIm rfl | exact nSl rfl | exact nIv rfl | exact nRow rfl | exact nNil rfl | exact nPtr rfl | exact nBsh rfl | exact nBsl rfl | exact nAny rfl | exact nIIm rfl | exact nISl rfl | exact rfl))) | (apply s_addI; exact rfl; exact rfl; exact rfl; (first | omega | decide | (dsimp only; omega)); (first | omega | decide | (dsimp only; omega))) | (apply s_gdo; exact rfl; exact rfl; (first | exact rfl | assumption)) | (apply s_gskipT; exact rfl; exact rfl; exact rfl; (first | exact rfl | assumption)) | (apply s_gskipF; exact rfl; exact rfl; exact rfl; (first | exact rfl | assumption)) | (apply s_gskipU; exact rfl; exact rfl; exact rfl) | (apply s_pickTIv; exact rfl; exact rfl; (first | exact rfl | assumption); exact rfl) | (apply s_pickFIv; exact rfl; exact rfl; (first | exact rfl | assumption); exact rfl) | (refine s_gsplit rfl rfl rfl (fun hb => ?_) (fun hb => ?_) <;> (have hp := hb; try simp only [decide_eq_true_eq, decide_eq_false_iff_not, beq_iff_eq, beq_eq_false_iff_ne, bne_iff_ne, bne_eq_false_iff_eq, ne_eq, Bool.not_eq_true, Bool.not_eq_false, Bool.not_eq_eq_eq_not, Bool.not_true, Bool.not_false, Bool.or_eq_true, Bool.or_eq_false_iff, Bool.and_eq_true, Bool.and_eq_false_iff, Int.not_lt, Int.not_le] at hp))) | (refine c_seq ?_) | (refine L.block ?_) | (refine s_region ?_) | (refine L.thenN ?_) | (refine L.inN ?_) | (refine L.skip ?_) | (apply c_condT; exact rfl; (first | exact rfl | assumption))))
      all_goals (refine hK _ (i + 1) trivial (by omega) (Wk.mk' (by intro id h; cases h) (.cons rfl (Sub.refl _) (.cons rfl (Sub.refl _) (.cons rfl (Sub.refl _) (.cons rfl (Sub.refl _) (.cons rfl (Sub.of_eq (congrArg aB ?_)) .nil))))) (.cons rfl rfl (Subs.refl _) .nil) .nil))
      all_goals (rw [hst2, colR]; clear hK hst2 hb0 e1 e2; (first | (simp only [*, Bool.true_and, Bool.and_true, Bool.false_or, Bool.or_false, Bool.or_true, Bool.true_or, Bool.false_and, Bool.and_false, Bool.not_true, Bool.not_false, decide_true, decide_false]; done) | (simp only [*, Bool.true_and, Bool.and_true, Bool.false_or, Bool.or_false, Bool.or_true, Bool.true_or, Bool.false_and, Bool.and_false, Bool.not_true, Bool.not_false, decide_true, decide_false]; simp; done) | (simp [*]; done) | (simp_all; done))))
set_option maxRecDepth 100000 in
set_option maxHeartbeats 8000000 in
theorem isCatalog_any {gs : Globs} (m : Int) (hgm : maxG m ∈ gs) (c : Cat) (hok : c.Ok) : CallG gs Tryd.prog 25 [.agg (c.c.map .iv)] [] [] [] (aB (goodCatM c)) := by
  have hok' := hok
  obtain ⟨ht, hi, hts, his⟩ := hok
  rw [← isCatR_eq, isCatR]
  refine CallG.intro _ Tryd.func25 rfl Tryd.ntmps25 rfl (fun w0 E0 hG => ?_)
  have e1 : decide (((c.ts.map Tab.c).length : Int) < 4) = decide (c.ts.length < 4) := decide_eq_decide.2 (by rw [List.length_map]; omega)
  have e2 : decide (((c.is.map Idx.c).length : Int) < 5) = decide (c.is.length < 5) := decide_eq_decide.2 (by rw [List.length_map]; omega)
  generalize hb0 : (decide (c.ts.length < 4) && decide (c.is.length < 5)) = b0
  (repeat' (first | (refine LW.is ?_; first | (refine s_nil ?_) | (apply s_mvIv; exact rfl; exact rfl) | (apply s_asIv; exact rfl; exact rfl) | (apply s_fieldP; exact rfl; exact rfl; exact rfl) | (apply s_load1P; exact rfl; exact rfl; exact rfl; (apply n_some; exact rfl; (first | exact nIm rfl | exact nSl rfl | exact nIv rfl | exact nRow rfl | exact nNil rfl | exact nPtr rfl | exact nBsh rfl | exact nBsl rfl | exact nAny rfl | exact rfl))) | (apply s_lenSl; exact rfl; exact rfl) | (apply s_lssI; exact rfl; exact rfl; exact rfl) | (apply s_box; exact rfl; exact rfl; exact rfl; (focus repeat' (first | exact nl_nil rfl | (apply nl_cons; exact rfl) | exact nIm rfl | exact nSl rfl | exact nIv rfl | exact nRow rfl | exact nNil rfl | exact nPtr rfl | exact nBsh rfl | exact nBsl rfl | exact nAny rfl | exact nIIm rfl | exact nISl rfl | exact rfl)); exact rfl; exact rfl) | (apply s_gdo; exact rfl; exact rfl; (first | exact rfl | assumption)) | (apply s_gskipT; exact rfl; exact rfl; exact rfl; (first | exact rfl | assumption)) | (apply s_pickTIv; exact rfl; exact rfl; (first | exact rfl | assumption); exact rfl) | (apply s_pickFIv; exact rfl; exact rfl; (first | exact rfl | assumption); exact rfl) | (refine s_gsplit rfl rfl rfl (fun hb => ?_) (fun hb => ?_) <;> (have hp := hb; try simp only [decide_eq_true_eq, decide_eq_false_iff_not, beq_iff_eq, beq_eq_false_iff_ne, bne_iff_ne, bne_eq_false_iff_eq, ne_eq, Bool.not_eq_true, Bool.not_eq_false, Bool.not_eq_eq_eq_not, Bool.not_true, Bool.not_false, Bool.or_eq_true, Bool.or_eq_false_iff, Bool.and_eq_true, Bool.and_eq_false_iff, Int.not_lt, Int.not_le] at hp))) | (refine c_seq ?_) | (refine L.block ?_) | (refine s_region ?_) | (refine L.thenN ?_)))
  all_goals (
    refine L.loopP (ι := Nat) (fun i => ⟨[(24, aI (i : Int)), (23, aI ((c.ts.map Tab.c).length : Int)), (22, .iv (.sl (c.ts.map Tab.c))), (1, .ptr 1 0), (4, aS (lastT c i)), (3, aB (b0 && (c.ts.take i).zipIdx.all (fun p => tabR c p.2 p.1)))], [(1, ⟨25, .l [.iv (.sl (c.ts.map Tab.c)), .iv (.sl (c.is.map Idx.c))]⟩)], []⟩) (fun i => c.ts.length - i) (fun i => True) (i0 := 0) ?_ trivial ?_
    · refine Wk.mk' (by intro id h; cases h) (.cons rfl (Sub.refl _) (.cons rfl (Sub.refl _) (.cons rfl (Sub.refl _) (.cons rfl (Sub.refl _) (.cons rfl (Sub.refl _) (.cons rfl (Sub.of_eq (congrArg aB ?_)) .nil)))))) (.cons rfl rfl (Subs.refl _) .nil) .nil
      simp only [List.take_zero, List.zipIdx_nil, List.all_nil, Bool.and_true]
      rw [← hb0, ← e1, ← e2]
      clear e1 e2 hb0
      (first | (simp only [*, Bool.true_and, Bool.and_true, Bool.false_or, Bool.or_false, Bool.or_true, Bool.true_or, Bool.false_and, Bool.and_false, Bool.not_true, Bool.not_false, decide_true, decide_false]; done) | (simp only [*, Bool.true_and, Bool.and_true, Bool.false_or, Bool.or_false, Bool.or_true, Bool.true_or, Bool.false_and, Bool.and_false, Bool.not_true, Bool.not_false, decide_true, decide_false]; simp; done) | (simp [*]; done) | (simp_all; done))
    intro i _ K hK
    cases hx : c.ts[i]? with
    | none =>
      have hlt := ltF (l := c.ts.map Tab.c) (getFN hx)
      rw [take_all hx]
      generalize hb1 : (b0 && c.ts.zipIdx.all (fun p => tabR c p.2 p.1)) = b1
      clear hK
      (repeat' (first | (refine LW.is ?_; first | (refine s_nil ?_) | (apply s_mvIv; exact rfl; exact rfl) | (apply s_asIv; exact rfl; exact rfl) | (apply s_fieldP; exact rfl; exact rfl; exact rfl) | (apply s_load1P; exact rfl; exact rfl; exact rfl; (apply n_some; exact rfl; (first | exact nIm rfl | exact nSl rfl | exact nIv rfl | exact nRow rfl | exact nNil rfl | exact nPtr rfl | exact nBsh rfl | exact nBsl rfl | exact nAny rfl | exact rfl))) | (apply s_lenSl; exact rfl; exact rfl) | (apply s_lssI; exact rfl; exact rfl; exact rfl)) | (refine c_seq ?_) | (refine L.block ?_) | (refine s_region ?_) | (refine L.thenN ?_) | (refine L.thenE ?_) | (refine L.inE ?_) | (refine L.exit ?_) | (apply c_condF; exact rfl; (first | exact rfl | assumption))))
      refine L.loopP (ι := Nat) (fun i => ⟨[(45, aI (i : Int)), (44, aI ((c.is.map Idx.c).length : Int)), (43, .iv (.sl (c.is.map Idx.c))), (1, .ptr 1 0), (4, aS (lastX c i)), (3, aB (b1 && (c.is.take i).zipIdx.all (fun p => idxR c p.2 p.1)))], [(1, ⟨25, .l [.iv (.sl (c.ts.map Tab.c)), .iv (.sl (c.is.map Idx.c))]⟩)], []⟩) (fun i => c.is.length - i) (fun i => True) (i0 := 0) ?_ trivial ?_
      · refine Wk.mk' (by intro id h; cases h) (.cons rfl (Sub.refl _) (.cons rfl (Sub.refl _) (.cons rfl (Sub.refl _) (.cons rfl (Sub.refl _) (.cons rfl (Sub.refl _) (.cons rfl (Sub.of_eq (congrArg aB ?_)) .nil)))))) (.cons rfl rfl (Subs.refl _) .nil) .nil
        simp only [List.take_zero, List.zipIdx_nil, List.all_nil, Bool.and_true]
      clear hx hlt
      intro i _ K hK
      cases hx : c.is[i]? with
      | none =>
        have hlt := ltF (l := c.is.map Idx.c) (getFN hx)
        rw [take_all hx]
        (repeat' (first | (refine LW.is ?_; first | (refine s_nil ?_) | (apply s_mvIv; exact rfl; exact rfl) | (apply s_asIv; exact rfl; exact rfl) | (apply s_lssI; exact rfl; exact rfl; exact rfl)) | (refine c_seq ?_) | (refine s_region ?_) | (refine L.thenN ?_) | (refine L.thenE ?_) | (refine L.inE ?_) | (refine L.ret ?_) | (refine L.exit ?_) | (apply c_condF; exact rfl; (first | exact rfl | assumption))))
        all_goals (first | (apply L.ends1; exact rfl; exact rfl; exact rfl) | (apply L.ends2; exact rfl; exact rfl; exact rfl) | (apply L.ends3; exact rfl; exact rfl; exact rfl) | (apply L.ends1A; exact rfl; exact rfl; exact rfl) | (apply L.ends2A; exact rfl; exact rfl; exact rfl))
        all_goals rfl
      | some y =>
        have hlt := ltT (l := c.is.map Idx.c) (getF (f := Idx.c) hx)
        have hlt' := ltN hx
        have g1 : (c.is.map Idx.c)[((i : Nat) : Int).toNat]? = some [S y.n, S y.tb, S y.co] := by rw [Int.toNat_natCast, List.getElem?_map, hx]; rfl
        have ky := isName_any m hgm y.n (his y (List.mem_of_getElem? hx))
        have kt := tableOf_any c y.tb ht
        have kf := colOf_any (findT c y.tb).1 y.co (findT_ok hok' y.tb).l
        have hst := all_step (fun p => idxR c p.2 p.1) hx
        have hla : lastX c (i + 1) = y.n := by
          rw [lastX, if_neg (by omega), Nat.add_sub_cancel, List.getD_eq_getElem?_getD, hx]; rfl
        have hgt := gtS y.n (lastX c i)
        have hid : idxR c i y = ((findT c y.tb).2 && (namedM y.n && (Op.bytesLess (lastX c i) y.n && decide (0 ≤ colM (findT c y.tb).1 y.co)))) := rfl
        generalize idxR c i y = IR at *
        generalize findT c y.tb = ft at *
        obtain ⟨tt, is⟩ := ft
        generalize lastX c i = la at *
        generalize hB : (b1 && (c.is.take i).zipIdx.all (fun p => idxR c p.2 p.1)) = B
        have hst2 : (b1 && (c.is.take (i + 1)).zipIdx.all (fun p => idxR c p.2 p.1)) = (B && IR) := by rw [hst, ← Bool.and_assoc, hB]
        clear hst hB
        cases B
        all_goals (repeat' (first | (refine LW.is ?_; first | ((apply s_indexA; exact rfl; exact rfl; exact rfl; omega; exact g1; exact rfl)) | ((apply s_callG; exact rfl; exact hG; exact ky; exact rfl; exact rfl)) | ((apply s_call0; exact rfl; exact kt; exact rfl; exact rfl)) | ((apply s_call0; exact rfl; exact kf; exact rfl; exact rfl)) | (refine s_nil ?_) | (apply s_mvIv; exact rfl; exact rfl) | (apply s_mvTup; exact rfl; exact rfl) | (apply s_asIv; exact rfl; exact rfl) | (apply s_fieldP; exact rfl; exact rfl; exact rfl) | (apply s_load1P; exact rfl; exact rfl; exact rfl; (apply n_some; exact rfl; (first | exact nIm rfl | exact nSl rfl | exact nIv rfl | exact nRow rfl | exact nNil rfl | exact nPtr rfl | exact nBsh rfl | exact nBsl rfl | exact nAny rfl | exact rfl))) | (apply s_loadAP; exact rfl; exact rfl; exact rfl; (focus repeat' (first | exact nl_nil rfl | (apply nl_cons; exact rfl) | exact nIm rfl | exact nSl rfl | exact nIv rfl | exact nRow rfl | exact nNil rfl | exact nPtr rfl | exact nBsh rfl | exact nBsl rfl | exact nAny rfl | exact nIIm rfl | exact nISl rfl | exact rfl)); exact rfl) | (apply s_loadAE; exact rfl; exact rfl; (focus repeat' (first | exact nl_nil rfl | (apply nl_cons; exact rfl) | exact nIm rfl | exact nSl rfl | exact nIv rfl | exact nRow rfl | exact nNil rfl | exact nPtr rfl | exact nBsh rfl | exact nBsl rfl | exact nAny rfl | exact nIIm rfl | exact nISl rfl | exact rfl)); exact rfl) | (apply s_lssI; exact rfl; exact rfl; exact rfl) | (apply s_geqI; exact rfl; exact rfl; exact rfl) | (apply s_gtrS; exact rfl; exact rfl; exact rfl) | (apply s_extract; exact rfl; exact rfl; (apply n_some; exact rfl; (first | exact nIm rfl | exact nSl rfl | exact nIv rfl | exact nRow rfl | exact nNil rfl | exact nPtr rfl | exact nBsh rfl | exact nBsl rfl | exact nAny rfl | exact rfl))) | (apply s_alloc; exact rfl; exact rfl; (focus repeat' (first | exact nl_nil rfl | (apply nl_cons; exact rfl) | exact nIm rfl | exact nSl rfl | exact nIv rfl | exact nRow rfl | exact nNil rfl | exact nPtr rfl | exact nBsh rfl | exact nBsl rfl | exact nAny rfl | exact nIIm rfl | exact nISl rfl | exact rfl)); exact rfl; exact rfl) | (apply s_store; exact rfl; exact rfl; exact rfl; exact rfl; exact rfl; exact rfl; (focus repeat' (first | exact nl_nil rfl | (apply nl_cons; exact rfl) | exact nIm rfl | exact nSl rfl | exact nIv rfl | exact nRow rfl | exact nNil rfl | exact nPtr rfl | exact nBsh rfl | exact nBsl rfl | exact nAny rfl | exact nIIm rfl | exact nISl rfl | exact rfl))) | (apply s_addI; exact rfl; exact rfl; exact rfl; (first | omega | decide | (dsimp only; omega)); (first | omega | decide | (dsimp only; omega))) | (apply s_gdo; exact rfl; exact rfl; (first | exact rfl | assumption)) | (apply s_gskipT; exact rfl; exact rfl; exact rfl; (first | exact rfl | assumption)) | (apply s_pickTIv; exact rfl; exact rfl; (first | exact rfl | assumption); exact rfl) | (apply s_pickFIv; exact rfl; exact rfl; (first | exact rfl | assumption); exact rfl) | (refine s_gsplit rfl rfl rfl (fun hb => ?_) (fun hb => ?_) <;> (have hp := hb; try simp only [decide_eq_true_eq, decide_eq_false_iff_not, beq_iff_eq, beq_eq_false_iff_ne, bne_iff_ne, bne_eq_false_iff_eq, ne_eq, Bool.not_eq_true, Bool.not_eq_false, Bool.not_eq_eq_eq_not, Bool.not_true, Bool.not_false, Bool.or_eq_true, Bool.or_eq_false_iff, Bool.and_eq_true, Bool.and_eq_false_iff, Int.not_lt, Int.not_le] at hp))) | (refine c_seq ?_) | (refine L.block ?_) | (refine s_region ?_) | (refine L.thenN ?_) | (refine L.inN ?_) | (refine L.skip ?_) | (apply c_condT; exact rfl; (first | exact rfl | assumption))))
        all_goals (refine hK _ (i + 1) trivial (by omega) (Wk.mk' (by intro id h; cases h) (.cons rfl (Sub.refl _) (.cons rfl (Sub.refl _) (.cons rfl (Sub.refl _) (.cons rfl (Sub.refl _) (.cons rfl (Sub.of_eq (congrArg aS hla.symm)) (.cons rfl (Sub.of_eq (congrArg aB ?_)) .nil)))))) (.cons rfl rfl (Subs.refl _) .nil) .nil))
        all_goals (rw [hst2, hid]; clear hK hst2 hid; (first | (simp only [*, Bool.true_and, Bool.and_true, Bool.false_or, Bool.or_false, Bool.or_true, Bool.true_or, Bool.false_and, Bool.and_false, Bool.not_true, Bool.not_false, decide_true, decide_false]; done) | (simp only [*, Bool.true_and, Bool.and_true, Bool.false_or, Bool.or_false, Bool.or_true, Bool.true_or, Bool.false_and, Bool.and_false, Bool.not_true, Bool.not_false, decide_true, decide_false]; simp; done) | (simp [*]; done) | (simp_all; done)))
    | some y =>
      have hlt := ltT (l := c.ts.map Tab.c) (getF (f := Tab.c) hx)
      have hlt' := ltN hx
      have g1 : (c.ts.map Tab.c)[((i : Nat) : Int).toNat]? = some [S y.n, .sl (y.cols.map Col.c)] := by rw [Int.toNat_natCast, List.getElem?_map, hx]; rfl
      have ky := isTable_any m hgm y (hts y (List.mem_of_getElem? hx))
      have hst := all_step (fun p => tabR c p.2 p.1) hx
      have hla : lastT c (i + 1) = y.n := by
        rw [lastT, if_neg (by omega), Nat.add_sub_cancel, List.getD_eq_getElem?_getD, hx]; rfl
      have hgt := gtS y.n (lastT c i)
      have hid : tabR c i y = (goodTabM y && Op.bytesLess (lastT c i) y.n) := rfl
      generalize tabR c i y = IR at *
      generalize lastT c i = la at *
      generalize hB : (b0 && (c.ts.take i).zipIdx.all (fun p => tabR c p.2 p.1)) = B
      have hst2 : (b0 && (c.ts.take (i + 1)).zipIdx.all (fun p => tabR c p.2 p.1)) = (B && IR) := by rw [hst, ← Bool.and_assoc, hB]
      clear hst hB
      cases B
      all_goals (repeat' (first | (refine LW.is ?_; first | ((apply s_indexA; exact rfl; exact rfl; exact rfl; omega; exact g1; exact rfl)) | ((apply s_callG; exact rfl; exact hG; exact ky; exact rfl; exact rfl)) | (refine s_nil ?_) | (apply s_mvIv; exact rfl; exact rfl) | (apply s_asIv; exact rfl; exact rfl) | (apply s_fieldP; exact rfl; exact rfl; exact rfl) | (apply s_load1P; exact rfl; exact rfl; exact rfl; (apply n_some; exact rfl; (first | exact nIm rfl | exact nSl rfl | exact nIv rfl | exact nRow rfl | exact nNil rfl | exact nPtr rfl | exact nBsh rfl | exact nBsl rfl | exact nAny rfl | exact rfl))) | (apply s_loadAP; exact rfl; exact rfl; exact rfl; (focus repeat' (first | exact nl_nil rfl | (apply nl_cons; exact rfl) | exact nIm rfl | exact nSl rfl | exact nIv rfl | exact nRow rfl | exact nNil rfl | exact nPtr rfl | exact nBsh rfl | exact nBsl rfl | exact nAny rfl | exact nIIm rfl | exact nISl rfl | exact rfl)); exact rfl) | (apply s_loadAE; exact rfl; exact rfl; (focus repeat' (first | exact nl_nil rfl | (apply nl_cons; exact rfl) | exact nIm rfl | exact nSl rfl | exact nIv rfl | exact nRow rfl | exact nNil rfl | exact nPtr rfl | exact nBsh rfl | exact nBsl rfl | exact nAny rfl | exact nIIm rfl | exact nISl rfl | exact rfl)); exact rfl) | (apply s_lssI; exact rfl; exact rfl; exact rfl) | (apply s_gtrS; exact rfl; exact rfl; exact rfl) | (apply s_alloc; exact rfl; exact rfl; (focus repeat' (first | exact nl_nil rfl | (apply nl_cons; exact rfl) | exact nIm rfl | exact nSl rfl | exact nIv rfl | exact nRow rfl | exact nNil rfl | exact nPtr rfl | exact nBsh rfl | exact nBsl rfl | exact nAny rfl | exact nIIm rfl | exact nISl rfl | exact rfl)); exact rfl; exact rfl) | (apply s_store; exact rfl; exact rfl; exact rfl; exact rfl; exact rfl; exact rfl; (focus repeat' (first | exact nl_nil rfl | (apply nl_cons; exact rfl) | exact nIm rfl | exact nSl rfl | exact nIv rfl | exact nRow rfl | exact nNil rfl | exact nPtr rfl | exact nBsh rfl | exact nBsl rfl | exact nAny rfl | exact nIIm rfl | exact nISl rfl | exact rfl))) | (apply s_addI; exact rfl; exact rfl; exact rfl; (first | omega | decide | (dsimp only; omega)); (first | omega | decide | (dsimp only; omega))) | (apply s_gdo; exact rfl; exact rfl; (first | exact rfl | assumption)) | (apply s_gskipT; exact rfl; exact rfl; exact rfl; (first | exact rfl | assumption)) | (apply s_pickTIv; exact rfl; exact rfl; (first | exact rfl | assumption); exact rfl) | (apply s_pickFIv; exact rfl; exact rfl; (first | exact rfl | assumption); exact rfl) | (refine s_gsplit rfl rfl rfl (fun hb => ?_) (fun hb => ?_) <;> (have hp := hb; try simp only [decide_eq_true_eq, decide_eq_false_iff_not, beq_iff_eq, beq_eq_false_iff_ne, bne_iff_ne, bne_eq_false_iff_eq, ne_eq, Bool.not_eq_true, Bool.not_eq_false, Bool.not_eq_eq_eq_not, Bool.not_true, Bool.not_false, Bool.or_eq_true, Bool.or_eq_false_iff, Bool.and_eq_true, Bool.and_eq_false_iff, Int.not_lt, Int.not_le] at hp))) | (refine c_seq ?_) | (refine L.block ?_) | (refine s_region ?_) | (refine L.thenN ?_) | (refine L.inN ?_) | (refine L.skip ?_) | (apply c_condT; exact rfl; (first | exact rfl | assumption))))
      all_goals (refine hK _ (i + 1) trivial (by omega) (Wk.mk' (by intro id h; cases h) (.cons rfl (Sub.refl _) (.cons rfl (Sub.refl _) (.cons rfl (Sub.refl _) (.cons rfl (Sub.refl _) (.cons rfl (Sub.of_eq (congrArg aS hla.symm)) (.cons rfl (Sub.of_eq (congrArg aB ?_)) .nil)))))) (.cons rfl rfl (Subs.refl _) .nil) .nil))
      all_goals (rw [hst2, hid]; clear hK hst2 hid; (first | (simp only [*, Bool.true_and, Bool.and_true, Bool.false_or, Bool.or_false, Bool.or_true, Bool.true_or, Bool.false_and, Bool.and_false, Bool.not_true, Bool.not_false, decide_true, decide_false]; done) | (simp only [*, Bool.true_and, Bool.and_true, Bool.false_or, Bool.or_false, Bool.or_true, Bool.true_or, Bool.false_and, Bool.and_false, Bool.not_true, Bool.not_false, decide_true, decide_false]; simp; done) | (simp [*]; done) | (simp_all; done))))
end Go.Proofs.YthkobnpogigkiaaDoor
/- Ways to rows: what kept computes; PlanAll answers true. Conditions: how much there is of what comes in. -/
namespace Go.Proofs.YthkobnpogigkiaaDoor
open Go.Abs
attribute [local irreducible] L Code.wp bodyPost Exit.then Exit.inBlock
set_option linter.unusedVariables false
set_option linter.unusedSimpArgs false
theorem named_len {s : Str} (h : namedM s = true) : s.length ≤ 8 := by
  simp only [namedM, Bool.and_eq_true, decide_eq_true_eq] at h; exact h.2.2.1
theorem goodTab_iff {t : Tab} (h : goodTabM t = true) : t.n.length ≤ 8 ∧ 1 ≤ t.cols.length ∧ t.cols.length ≤ 4 := by
  simp only [goodTabM, Bool.and_eq_true, decide_eq_true_eq] at h
  exact ⟨named_len h.2.1, h.2.2.1, h.2.2.2.1⟩
theorem goodCat_tab {c : Cat} (h : goodCatM c = true) {t : Tab} (ht : t ∈ c.ts) : goodTabM t = true := by
  simp only [goodCatM, Bool.and_eq_true] at h
  obtain ⟨i, hi, rfl⟩ := List.mem_iff_getElem.1 ht
  have h1 := List.all_eq_true.1 h.1 (c.ts[i], i) (List.mem_zipIdx_iff_getElem?.2 (by simp))
  simp only [tabOk, Bool.not_eq_true', Bool.or_eq_false_iff, Bool.not_eq_false'] at h1
  exact h1.1
theorem goodCat_is {c : Cat} (h : goodCatM c = true) : c.is.length ≤ 4 ∧ ∀ x ∈ c.is, x.n.length ≤ 8 := by
  simp only [goodCatM, Bool.and_eq_true, decide_eq_true_eq] at h
  refine ⟨by have := h.2.2.2; omega, fun x hx => ?_⟩
  obtain ⟨i, hi, rfl⟩ := List.mem_iff_getElem.1 hx
  have h1 := List.all_eq_true.1 h.2.1 (c.is[i], i) (List.mem_zipIdx_iff_getElem?.2 (by simp))
  simp only [idxOk, Bool.not_eq_true', Bool.or_eq_false_iff, Bool.not_eq_false'] at h1
  exact named_len h1.1.1.1
theorem findT_mem {c : Cat} {name : Str} (h : (findT c name).2 = true) : (findT c name).1 ∈ c.ts ∧ (findT c name).1.n = name := by
  unfold findT at h ⊢
  cases hf : c.ts.find? (fun t => t.n == name) with
  | none => rw [hf] at h; cases h
  | some t => exact ⟨List.mem_of_find?_eq_some hf, by simpa using List.find?_some hf⟩
theorem holds_small {c : Cat} {t : Tab} {ps : List Pg} {own : List (List Val)} (h : Holds c t ps own) (h1 : t.n.length ≤ 8) (h2 : t.cols.length ≤ 4) (h3 : ∀ x ∈ c.is, x.n.length ≤ 8) : SmallT ps := by
  rintro ⟨a, b⟩ hx
  obtain ⟨r, hr, hc⟩ := (h.mem a b).1 hx
  have hf := h.fit r hr
  rcases hc with ⟨rfl, rfl⟩ | ⟨ha, rfl⟩
  · have e1 := keyS_len [r.getD 0 nilV]
    have e2 := keyS_len r
    have e3 : (rowK t r).length = t.n.length + 2 + (keyS [r.getD 0 nilV]).length := by simp [rowK, rowKeyM, rowsK]; omega
    simp only [List.length_singleton] at e1
    exact ⟨by rw [e3]; omega, by show (keyS r).length ≤ _; omega⟩
  · obtain ⟨x, hxm, rfl⟩ := List.mem_map.1 ha
    have hxl := h3 x (List.mem_filter.1 hxm).1
    have e1 := keyS_len [r.getD (colM t x.co).toNat nilV, r.getD 0 nilV]
    have e3 : (ixKey t r x).length = x.n.length + 2 + (keyS [r.getD (colM t x.co).toNat nilV, r.getD 0 nilV]).length := by simp [ixKey, indexKeyM, entriesK]; omega
    simp only [List.length_cons, List.length_nil] at e1
    exact ⟨by rw [e3]; omega, by simp⟩
def tT : Tab := ⟨[116], [⟨[97], 1, true⟩]⟩
def vT : Val := ⟨1, 3, []⟩
theorem put_eT : putT [] ⟨[tT], []⟩ tT [vT] = [⟨[rowKeyM [116] vT], [keyS [vT]]⟩] := by simp [putT, tT, putM, goodTree, goodT]
theorem rows_eT : rowsT [⟨[rowKeyM [116] vT], [keyS [vT]]⟩] tT (allW [116]) = [[vT]] := by
  have hH : Holds ⟨[tT], []⟩ tT (putT [] ⟨[tT], []⟩ tT [vT]) ([] ++ [[vT]]) := (Holds.nil _ _).put (by decide) ⟨rfl, rfl⟩ rfl
  have h := (rows_all hH).1
  rw [put_eT] at h
  exact List.perm_singleton.1 h
end Go.Proofs.YthkobnpogigkiaaDoor
/- Values: what the reference's IsValue and KeyOf compute. Conditions: how much there is of what comes in. -/
namespace Go.Proofs.YthkobnpogigkiaaDoor
open Go.Abs
attribute [local irreducible] L Code.wp bodyPost Exit.then Exit.inBlock
set_option linter.unusedVariables false
set_option linter.unusedSimpArgs false
theorem all_take {s : List UInt8} {i : Nat} {b : UInt8} (h : s[i]? = some b) : (s.take (i + 1)).all charOk = ((s.take i).all charOk && charOk b) := by
  rw [takeC h]; simp
set_option maxRecDepth 100000 in
set_option maxHeartbeats 1000000 in
theorem isval_any (v : Val) (hs : v.s.length ≤ 140737488355328) : CallA Tryd.prog 29 [.agg (v.c.map .iv)] [] [] [] (aB (goodM v)) := by
  obtain ⟨k, n, s⟩ := v
  refine CallA.intro _ Tryd.func29 rfl Tryd.ntmps29 rfl (fun w0 E0 => ?_)
  dsimp only at hs
  (repeat' (first | (refine LW.is ?_; first | (refine s_nil ?_) | (apply s_mvIv; exact rfl; exact rfl) | (apply s_asIv; exact rfl; exact rfl) | (apply s_fieldP; exact rfl; exact rfl; exact rfl) | (apply s_load1P; exact rfl; exact rfl; exact rfl; (apply n_some; exact rfl; (first | exact nIm rfl | exact nSl rfl | exact nIv rfl | exact nRow rfl | exact nNil rfl | exact nPtr rfl | exact nBsh rfl | exact nBsl rfl | exact nAny rfl | exact rfl))) | (apply s_lenSl; exact rfl; exact rfl) | (apply s_box; exact rfl; exact rfl; exact rfl; (focus repeat' (first | exact nl_nil rfl | (apply nl_cons; exact rfl) | exact nIm rfl | exact nSl rfl | exact nIv rfl | exact nRow rfl | exact nNil rfl | exact nPtr rfl | exact nBsh rfl | exact nBsl rfl | exact nAny rfl | exact nIIm rfl | exact nISl rfl | exact rfl)); exact rfl; exact rfl) | (apply s_strBytes; exact rfl; exact rfl; exact rfl; (first | omega | (dsimp only; omega) | (simp; done) | (simp; omega)))) | (refine c_seq ?_) | (refine L.block ?_) | (refine s_region ?_) | (refine L.thenN ?_)))
  refine L.loopP (ι := Nat × Bool) (fun i => ⟨[(10, aI (i.1 : Int)), (9, aI ((s.map cB).length : Int)), (8, .iv (.sl (s.map cB))), (3, aB i.2), (1, .ptr 1 0)], [(1, ⟨32, .l [.iv (I k), .iv (I n), .iv (S s)]⟩)], []⟩) (fun i => s.length - i.1) (fun i => i.2 = (s.take i.1).all charOk) (i0 := (0, true)) ?_ rfl ?_
  · (refine Wk.mk' (by intro id h; cases h) ?_ ?_ ?_ <;> repeat' (first | exact WkF.nil | exact WkB.nil | exact WkT.nil | (refine WkF.cons rfl (Sub.refl _) ?_) | (refine WkB.cons rfl rfl (Subs.refl _) ?_) | (refine WkT.cons rfl ?_)))
  rintro ⟨i, b⟩ hi K hK
  dsimp only at hi ⊢
  cases hv : s[i]? with
  | none =>
    have hlt := ltF (l := s.map cB) (getFN hv)
    rw [takeN hv] at hi
    have ha := hi.symm
    clear hi
    have hlen : decide ((s.length : Int) < 9) = decide (s.length ≤ 8) := by rw [decide_eq_decide]; omega
    cases b with
    | false =>
      (repeat' (first | (refine LW.is ?_; first | (refine s_nil ?_) | (apply s_mvIv; exact rfl; exact rfl) | (apply s_asIv; exact rfl; exact rfl) | (apply s_fieldP; exact rfl; exact rfl; exact rfl) | (apply s_load1P; exact rfl; exact rfl; exact rfl; (apply n_some; exact rfl; (first | exact nIm rfl | exact nSl rfl | exact nIv rfl | exact nRow rfl | exact nNil rfl | exact nPtr rfl | exact nBsh rfl | exact nBsl rfl | exact nAny rfl | exact rfl))) | (apply s_loadAP; exact rfl; exact rfl; exact rfl; (focus repeat' (first | exact nl_nil rfl | (apply nl_cons; exact rfl) | exact nIm rfl | exact nSl rfl | exact nIv rfl | exact nRow rfl | exact nNil rfl | exact nPtr rfl | exact nBsh rfl | exact nBsl rfl | exact nAny rfl | exact nIIm rfl | exact nISl rfl | exact rfl)); exact rfl) | (apply s_eqlI; exact rfl; exact rfl; exact rfl) | (apply s_lssI; exact rfl; exact rfl; exact rfl) | (apply s_leqI; exact rfl; exact rfl; exact rfl) | (apply s_eqlS; exact rfl; exact rfl; exact rfl) | (apply s_build; exact rfl; exact rfl; (apply n_some; exact rfl; (focus repeat' (first | exact nl_nil rfl | (apply nl_cons; exact rfl) | exact nIm rfl | exact nSl rfl | exact nIv rfl | exact nRow rfl | exact nNil rfl | exact nPtr rfl | exact nBsh rfl | exact nBsl rfl | exact nAny rfl | exact nIIm rfl | exact nISl rfl | exact rfl)))) | (apply s_eqlAgg; exact rfl; exact rfl; exact rfl; exact rfl; exact rfl) | (apply s_gdo; exact rfl; exact rfl; (first | exact rfl | assumption)) | (apply s_gskipT; exact rfl; exact rfl; exact rfl; (first | exact rfl | assumption)) | (apply s_gskipF; exact rfl; exact rfl; exact rfl; (first | exact rfl | assumption)) | (apply s_gskipU; exact rfl; exact rfl; exact rfl) | (apply s_pickTIv; exact rfl; exact rfl; (first | exact rfl | assumption); exact rfl) | (apply s_pickFIv; exact rfl; exact rfl; (first | exact rfl | assumption); exact rfl) | (refine s_gsplit rfl rfl rfl (fun hb => ?_) (fun hb => ?_) <;> (have hp := hb; try simp only [decide_eq_true_eq, decide_eq_false_iff_not, beq_iff_eq, beq_eq_false_iff_ne, bne_iff_ne, bne_eq_false_iff_eq, ne_eq, Bool.not_eq_true, Bool.not_eq_false, Bool.not_eq_eq_eq_not, Bool.not_true, Bool.not_false, Bool.or_eq_true, Bool.or_eq_false_iff, Bool.and_eq_true, Bool.and_eq_false_iff, Int.not_lt, Int.not_le] at hp))) | (refine c_seq ?_) | (refine s_region ?_) | (refine L.thenN ?_) | (refine L.thenE ?_) | (refine L.inE ?_) | (refine L.ret ?_) | (refine L.exit ?_) | (apply c_condF; exact rfl; (first | exact rfl | assumption))))
      all_goals (first | (apply L.ends1; exact rfl; exact rfl; exact rfl) | (apply L.ends2; exact rfl; exact rfl; exact rfl) | (apply L.ends3; exact rfl; exact rfl; exact rfl) | (apply L.ends1A; exact rfl; exact rfl; exact rfl) | (apply L.ends2A; exact rfl; exact rfl; exact rfl))
      all_goals clear hK
      all_goals (first | (simp [goodM, *]; done) | (simp [goodM, *]; omega) | (simp_all [goodM]; done) | (simp_all [goodM]; omega))
    | true =>
      (repeat' (first | (refine LW.is ?_; first | (refine s_nil ?_) | (apply s_mvIv; exact rfl; exact rfl) | (apply s_asIv; exact rfl; exact rfl) | (apply s_fieldP; exact rfl; exact rfl; exact rfl) | (apply s_load1P; exact rfl; exact rfl; exact rfl; (apply n_some; exact rfl; (first | exact nIm rfl | exact nSl rfl | exact nIv rfl | exact nRow rfl | exact nNil rfl | exact nPtr rfl | exact nBsh rfl | exact nBsl rfl | exact nAny rfl | exact rfl))) | (apply s_loadAP; exact rfl; exact rfl; exact rfl; (focus repeat' (first | exact nl_nil rfl | (apply nl_cons; exact rfl) | exact nIm rfl | exact nSl rfl | exact nIv rfl | exact nRow rfl | exact nNil rfl | exact nPtr rfl | exact nBsh rfl | exact nBsl rfl | exact nAny rfl | exact nIIm rfl | exact nISl rfl | exact rfl)); exact rfl) | (apply s_lenS; exact rfl; exact rfl) | (apply s_eqlI; exact rfl; exact rfl; exact rfl) | (apply s_lssI; exact rfl; exact rfl; exact rfl) | (apply s_leqI; exact rfl; exact rfl; exact rfl) | (apply s_eqlS; exact rfl; exact rfl; exact rfl) | (apply s_build; exact rfl; exact rfl; (apply n_some; exact rfl; (focus repeat' (first | exact nl_nil rfl | (apply nl_cons; exact rfl) | exact nIm rfl | exact nSl rfl | exact nIv rfl | exact nRow rfl | exact nNil rfl | exact nPtr rfl | exact nBsh rfl | exact nBsl rfl | exact nAny rfl | exact nIIm rfl | exact nISl rfl | exact rfl)))) | (apply s_eqlAgg; exact rfl; exact rfl; exact rfl; exact rfl; exact rfl) | (apply s_gdo; exact rfl; exact rfl; (first | exact rfl | assumption)) | (apply s_gskipT; exact rfl; exact rfl; exact rfl; (first | exact rfl | assumption)) | (apply s_gskipF; exact rfl; exact rfl; exact rfl; (first | exact rfl | assumption)) | (apply s_gskipU; exact rfl; exact rfl; exact rfl) | (apply s_pickTIv; exact rfl; exact rfl; (first | exact rfl | assumption); exact rfl) | (apply s_pickFIv; exact rfl; exact rfl; (first | exact rfl | assumption); exact rfl) | (refine s_gsplit rfl rfl rfl (fun hb => ?_) (fun hb => ?_) <;> (have hp := hb; try simp only [decide_eq_true_eq, decide_eq_false_iff_not, beq_iff_eq, beq_eq_false_iff_ne, bne_iff_ne, bne_eq_false_iff_eq, ne_eq, Bool.not_eq_true, Bool.not_eq_false, Bool.not_eq_eq_eq_not, Bool.not_true, Bool.not_false, Bool.or_eq_true, Bool.or_eq_false_iff, Bool.and_eq_true, Bool.and_eq_false_iff, Int.not_lt, Int.not_le] at hp))) | (refine c_seq ?_) | (refine s_region ?_) | (refine L.thenN ?_) | (refine L.thenE ?_) | (refine L.inE ?_) | (refine L.ret ?_) | (refine L.exit ?_) | (apply c_condF; exact rfl; (first | exact rfl | assumption))))
      all_goals (first | (apply L.ends1; exact rfl; exact rfl; exact rfl) | (apply L.ends2; exact rfl; exact rfl; exact rfl) | (apply L.ends3; exact rfl; exact rfl; exact rfl) | (apply L.ends1A; exact rfl; exact rfl; exact rfl) | (apply L.ends2A; exact rfl; exact rfl; exact rfl))
      all_goals clear hK
      all_goals (first | (simp [goodM, *]; done) | (simp [goodM, *]; omega) | (simp_all [goodM]; done) | (simp_all [goodM]; omega))
  | some c =>
    have hlt := ltT (l := s.map cB) (getF hv)
    have hlt' := ltN hv
    have hat := all_take hv
    rw [← hi] at hat
    cases b with
    | false =>
      (repeat' (first | (refine LW.is ?_; first | (refine s_nil ?_) | (apply s_mvIv; exact rfl; exact rfl) | (apply s_asIv; exact rfl; exact rfl) | (apply s_load1E; exact rfl; exact rfl; exact rfl) | (apply s_lssI; exact rfl; exact rfl; exact rfl) | (apply s_addI; exact rfl; exact rfl; exact rfl; (first | omega | decide | (dsimp only; omega)); (first | omega | decide | (dsimp only; omega))) | (apply s_indexA; exact rfl; exact rfl; exact rfl; (first | omega | decide | (dsimp only; omega)); (exact Go.Abs.getM (by assumption)); exact rfl) | (apply s_gskipT; exact rfl; exact rfl; exact rfl; (first | exact rfl | assumption)) | (apply s_pickFIv; exact rfl; exact rfl; (first | exact rfl | assumption); exact rfl)) | (refine c_seq ?_) | (refine L.block ?_) | (refine s_region ?_) | (refine L.thenN ?_) | (refine L.inN ?_) | (refine L.skip ?_) | (apply c_condT; exact rfl; (first | exact rfl | assumption))))
      refine hK _ (i + 1, false) (by rw [hat]; rfl) (by simp; omega) ?_
      (refine Wk.mk' (by intro id h; cases h) ?_ ?_ ?_ <;> repeat' (first | exact WkF.nil | exact WkB.nil | exact WkT.nil | (refine WkF.cons rfl (Sub.refl _) ?_) | (refine WkB.cons rfl rfl (Subs.refl _) ?_) | (refine WkT.cons rfl ?_)))
    | true =>
      cases h1 : decide ((32 : Int) ≤ (c.toNat : Int)) with
      | false =>
        (repeat' (first | (refine LW.is ?_; first | (refine s_nil ?_) | (apply s_mvIv; exact rfl; exact rfl) | (apply s_asIv; exact rfl; exact rfl) | (apply s_load1E; exact rfl; exact rfl; exact rfl) | (apply s_lssI; exact rfl; exact rfl; exact rfl) | (apply s_geqI; exact rfl; exact rfl; exact rfl) | (apply s_addI; exact rfl; exact rfl; exact rfl; (first | omega | decide | (dsimp only; omega)); (first | omega | decide | (dsimp only; omega))) | (apply s_indexA; exact rfl; exact rfl; exact rfl; (first | omega | decide | (dsimp only; omega)); (exact Go.Abs.getM (by assumption)); exact rfl) | (apply s_gdo; exact rfl; exact rfl; (first | exact rfl | assumption)) | (apply s_gskipT; exact rfl; exact rfl; exact rfl; (first | exact rfl | assumption)) | (apply s_pickTIv; exact rfl; exact rfl; (first | exact rfl | assumption); exact rfl) | (apply s_pickFIv; exact rfl; exact rfl; (first | exact rfl | assumption); exact rfl)) | (refine c_seq ?_) | (refine L.block ?_) | (refine s_region ?_) | (refine L.thenN ?_) | (refine L.inN ?_) | (refine L.skip ?_) | (apply c_condT; exact rfl; (first | exact rfl | assumption))))
        refine hK _ (i + 1, false) (by rw [hat]; simp at h1; simp [charOk]; omega) (by simp; omega) ?_
        (refine Wk.mk' (by intro id h; cases h) ?_ ?_ ?_ <;> repeat' (first | exact WkF.nil | exact WkB.nil | exact WkT.nil | (refine WkF.cons rfl (Sub.refl _) ?_) | (refine WkB.cons rfl rfl (Subs.refl _) ?_) | (refine WkT.cons rfl ?_)))
      | true =>
        cases h2 : decide ((c.toNat : Int) < (127 : Int)) with
        | false =>
          (repeat' (first | (refine LW.is ?_; first | (refine s_nil ?_) | (apply s_mvIv; exact rfl; exact rfl) | (apply s_asIv; exact rfl; exact rfl) | (apply s_load1E; exact rfl; exact rfl; exact rfl) | (apply s_lssI; exact rfl; exact rfl; exact rfl) | (apply s_geqI; exact rfl; exact rfl; exact rfl) | (apply s_addI; exact rfl; exact rfl; exact rfl; (first | omega | decide | (dsimp only; omega)); (first | omega | decide | (dsimp only; omega))) | (apply s_indexA; exact rfl; exact rfl; exact rfl; (first | omega | decide | (dsimp only; omega)); (exact Go.Abs.getM (by assumption)); exact rfl) | (apply s_gdo; exact rfl; exact rfl; (first | exact rfl | assumption)) | (apply s_gskipT; exact rfl; exact rfl; exact rfl; (first | exact rfl | assumption)) | (apply s_pickTIv; exact rfl; exact rfl; (first | exact rfl | assumption); exact rfl) | (apply s_pickFIv; exact rfl; exact rfl; (first | exact rfl | assumption); exact rfl)) | (refine c_seq ?_) | (refine L.block ?_) | (refine s_region ?_) | (refine L.thenN ?_) | (refine L.inN ?_) | (refine L.skip ?_) | (apply c_condT; exact rfl; (first | exact rfl | assumption))))
          refine hK _ (i + 1, false) (by rw [hat]; simp at h1 h2; simp [charOk]; omega) (by simp; omega) ?_
          (refine Wk.mk' (by intro id h; cases h) ?_ ?_ ?_ <;> repeat' (first | exact WkF.nil | exact WkB.nil | exact WkT.nil | (refine WkF.cons rfl (Sub.refl _) ?_) | (refine WkB.cons rfl rfl (Subs.refl _) ?_) | (refine WkT.cons rfl ?_)))
        | true =>
          (repeat' (first | (refine LW.is ?_; first | (refine s_nil ?_) | (apply s_mvIv; exact rfl; exact rfl) | (apply s_asIv; exact rfl; exact rfl) | (apply s_load1E; exact rfl; exact rfl; exact rfl) | (apply s_neqI; exact rfl; exact rfl; exact rfl) | (apply s_lssI; exact rfl; exact rfl; exact rfl) | (apply s_geqI; exact rfl; exact rfl; exact rfl) | (apply s_addI; exact rfl; exact rfl; exact rfl; (first | omega | decide | (dsimp only; omega)); (first | omega | decide | (dsimp only; omega))) | (apply s_indexA; exact rfl; exact rfl; exact rfl; (first | omega | decide | (dsimp only; omega)); (exact Go.Abs.getM (by assumption)); exact rfl) | (apply s_gdo; exact rfl; exact rfl; (first | exact rfl | assumption)) | (apply s_pickTIv; exact rfl; exact rfl; (first | exact rfl | assumption); exact rfl)) | (refine c_seq ?_) | (refine L.block ?_) | (refine s_region ?_) | (refine L.thenN ?_) | (refine L.inN ?_) | (refine L.skip ?_) | (apply c_condT; exact rfl; (first | exact rfl | assumption))))
          refine hK _ (i + 1, (c.toNat : Int) != 39) ?_ (by simp; omega) ?_
          · simp at h1 h2
            have e1 : decide (32 ≤ c.toNat) = true := by simp; omega
            have e2 : decide (c.toNat ≤ 126) = true := by simp; omega
            rw [hat, charOk, e1, e2]
            simp only [Bool.true_and]
            rw [Bool.eq_iff_iff]; simp; omega
          · (refine Wk.mk' (by intro id h; cases h) ?_ ?_ ?_ <;> repeat' (first | exact WkF.nil | exact WkB.nil | exact WkT.nil | (refine WkF.cons rfl (Sub.refl _) ?_) | (refine WkB.cons rfl rfl (Subs.refl _) ?_) | (refine WkT.cons rfl ?_)))
end Go.Proofs.YthkobnpogigkiaaDoor
/- Values: what the reference's KeyOf computes. Conditions: how much there is of what comes in. -/
namespace Go.Proofs.YthkobnpogigkiaaDoor
open Go.Abs
attribute [local irreducible] L Code.wp bodyPost Exit.then Exit.inBlock
set_option linter.unusedVariables false
set_option linter.unusedSimpArgs false
set_option maxRecDepth 100000 in
theorem key_of_any (vs : List Val) (hlen : 10 * vs.length ≤ 140737488355328) (hs : ∀ v ∈ vs, v.s.length ≤ 140737488355328) : CallA Tryd.prog 30 [.iv (.sl (vs.map Val.c))] [] [] [] (.tup [.iv (S (keyM vs).1), .iv (I (keyM vs).2)]) := by
  refine CallA.intro _ Tryd.func30 rfl Tryd.ntmps30 rfl (fun w0 E0 => ?_)
  (repeat' (first | (refine LW.is ?_; first | (refine s_nil ?_) | (apply s_mvIv; exact rfl; exact rfl) | (apply s_asIv; exact rfl; exact rfl) | (apply s_lenSl; exact rfl; exact rfl)) | (refine c_seq ?_) | (refine L.block ?_) | (refine s_region ?_) | (refine L.thenN ?_)))
  refine L.loopP (ι := Nat) (fun i => ⟨[(10, aI (i : Int)), (9, aI ((vs.map Val.c).length : Int)), (8, .iv (.sl (vs.map Val.c))), (4, aS ((vs.take i).flatMap keyOne))], [], []⟩) (fun i => vs.length - i) (fun i => (vs.take i).all goodM = true) (i0 := 0) ?_ rfl ?_
  · (refine Wk.mk' (by intro id h; cases h) ?_ ?_ ?_ <;> repeat' (first | exact WkF.nil | exact WkB.nil | exact WkT.nil | (refine WkF.cons rfl (Sub.refl _) ?_) | (refine WkB.cons rfl rfl (Subs.refl _) ?_) | (refine WkT.cons rfl ?_)))
  intro i hi K hK
  cases hv : vs[i]? with
  | none =>
    have hlt := ltF (l := vs.map Val.c) (getFN hv)
    (repeat' (first | (refine LW.is ?_; first | (refine s_nil ?_) | (apply s_mvIv; exact rfl; exact rfl) | (apply s_asIv; exact rfl; exact rfl) | (apply s_lssI; exact rfl; exact rfl; exact rfl)) | (refine c_seq ?_) | (refine s_region ?_) | (refine L.thenN ?_) | (refine L.thenE ?_) | (refine L.inE ?_) | (refine L.ret ?_) | (refine L.exit ?_) | (apply c_condF; exact rfl; (first | exact rfl | assumption))))
    all_goals (first | (apply L.ends1; exact rfl; exact rfl; exact rfl) | (apply L.ends2; exact rfl; exact rfl; exact rfl) | (apply L.ends3; exact rfl; exact rfl; exact rfl) | (apply L.ends1A; exact rfl; exact rfl; exact rfl) | (apply L.ends2A; exact rfl; exact rfl; exact rfl))
    rw [takeN hv] at hi ⊢
    simp [keyM, hi]
  | some v =>
    have hlt := ltT (l := vs.map Val.c) (getF hv)
    have hlt' := ltN hv
    have hfl := flat_length hi
    have htl : (vs.take i).length = i := by simp; omega
    have hsv := hs v (List.mem_of_getElem? hv)
    cases hg : goodM v with
    | false =>
      have hng : (!goodM v) = true := by rw [hg]; rfl
      (repeat' (first | (refine LW.is ?_; first | ((apply s_call0; exact rfl; exact isval_any v hsv; exact rfl; exact rfl)) | (refine s_nil ?_) | (apply s_asIv; exact rfl; exact rfl) | (apply s_loadAP; exact rfl; exact rfl; exact rfl; (focus repeat' (first | exact nl_nil rfl | (apply nl_cons; exact rfl) | exact nIm rfl | exact nSl rfl | exact nIv rfl | exact nRow rfl | exact nNil rfl | exact nPtr rfl | exact nBsh rfl | exact nBsl rfl | exact nAny rfl | exact nIIm rfl | exact nISl rfl | exact rfl)); exact rfl) | (apply s_loadAE; exact rfl; exact rfl; (focus repeat' (first | exact nl_nil rfl | (apply nl_cons; exact rfl) | exact nIm rfl | exact nSl rfl | exact nIv rfl | exact nRow rfl | exact nNil rfl | exact nPtr rfl | exact nBsh rfl | exact nBsl rfl | exact nAny rfl | exact nIIm rfl | exact nISl rfl | exact rfl)); exact rfl) | (apply s_lssI; exact rfl; exact rfl; exact rfl) | (apply s_not; exact rfl; exact rfl) | (apply s_alloc; exact rfl; exact rfl; (focus repeat' (first | exact nl_nil rfl | (apply nl_cons; exact rfl) | exact nIm rfl | exact nSl rfl | exact nIv rfl | exact nRow rfl | exact nNil rfl | exact nPtr rfl | exact nBsh rfl | exact nBsl rfl | exact nAny rfl | exact nIIm rfl | exact nISl rfl | exact rfl)); exact rfl; exact rfl) | (apply s_store; exact rfl; exact rfl; exact rfl; exact rfl; exact rfl; exact rfl; (focus repeat' (first | exact nl_nil rfl | (apply nl_cons; exact rfl) | exact nIm rfl | exact nSl rfl | exact nIv rfl | exact nRow rfl | exact nNil rfl | exact nPtr rfl | exact nBsh rfl | exact nBsl rfl | exact nAny rfl | exact nIIm rfl | exact nISl rfl | exact rfl))) | (apply s_indexA; exact rfl; exact rfl; exact rfl; (first | omega | decide | (dsimp only; omega)); (exact Go.Abs.getM (by assumption)); exact rfl)) | (refine c_seq ?_) | (refine L.block ?_) | (refine s_region ?_) | (refine L.thenN ?_) | (refine L.thenR ?_) | (refine L.inR ?_) | (refine L.ret ?_) | (refine L.skip ?_) | (apply c_condT; exact rfl; (first | exact rfl | assumption))))
      all_goals (first | (apply L.ends1; exact rfl; exact rfl; exact rfl) | (apply L.ends2; exact rfl; exact rfl; exact rfl) | (apply L.ends3; exact rfl; exact rfl; exact rfl) | (apply L.ends1A; exact rfl; exact rfl; exact rfl) | (apply L.ends2A; exact rfl; exact rfl; exact rfl))
      have : vs.all goodM = false := by
        rw [List.all_eq_false]
        exact ⟨v, List.mem_of_getElem? hv, by simp [hg]⟩
      simp [keyM, this]
    | true =>
      have hng : (!goodM v) = false := by rw [hg]; rfl
      have hnext : (vs.take (i + 1)).all goodM = true := by rw [takeC hv]; simp [hi, hg]
      have hacc : (vs.take (i + 1)).flatMap keyOne = (vs.take i).flatMap keyOne ++ keyOne v := by rw [takeC hv]; simp
      generalize hq : (vs.take (i + 1)).flatMap keyOne = acc' at hacc
      generalize (vs.take i).flatMap keyOne = acc at hfl hacc ⊢
      rw [htl] at hfl
      rcases good_cases hg with rfl | ⟨n, rfl, h0, h1⟩ | ⟨s, rfl, hl, hcs⟩
      · (repeat' (first | (refine LW.is ?_; first | ((apply s_call0; exact rfl; exact isval_any ⟨0, 0, []⟩ hsv; exact rfl; exact rfl)) | (refine s_nil ?_) | (apply s_mvIv; exact rfl; exact rfl) | (apply s_asIv; exact rfl; exact rfl) | (apply s_fieldP; exact rfl; exact rfl; exact rfl) | (apply s_load1P; exact rfl; exact rfl; exact rfl; (apply n_some; exact rfl; (first | exact nIm rfl | exact nSl rfl | exact nIv rfl | exact nRow rfl | exact nNil rfl | exact nPtr rfl | exact nBsh rfl | exact nBsl rfl | exact nAny rfl | exact rfl))) | (apply s_loadAP; exact rfl; exact rfl; exact rfl; (focus repeat' (first | exact nl_nil rfl | (apply nl_cons; exact rfl) | exact nIm rfl | exact nSl rfl | exact nIv rfl | exact nRow rfl | exact nNil rfl | exact nPtr rfl | exact nBsh rfl | exact nBsl rfl | exact nAny rfl | exact nIIm rfl | exact nISl rfl | exact rfl)); exact rfl) | (apply s_loadAE; exact rfl; exact rfl; (focus repeat' (first | exact nl_nil rfl | (apply nl_cons; exact rfl) | exact nIm rfl | exact nSl rfl | exact nIv rfl | exact nRow rfl | exact nNil rfl | exact nPtr rfl | exact nBsh rfl | exact nBsl rfl | exact nAny rfl | exact nIIm rfl | exact nISl rfl | exact rfl)); exact rfl) | (apply s_eqlI; exact rfl; exact rfl; exact rfl) | (apply s_lssI; exact rfl; exact rfl; exact rfl) | (apply s_not; exact rfl; exact rfl) | (apply s_alloc; exact rfl; exact rfl; (focus repeat' (first | exact nl_nil rfl | (apply nl_cons; exact rfl) | exact nIm rfl | exact nSl rfl | exact nIv rfl | exact nRow rfl | exact nNil rfl | exact nPtr rfl | exact nBsh rfl | exact nBsl rfl | exact nAny rfl | exact nIIm rfl | exact nISl rfl | exact rfl)); exact rfl; exact rfl) | (apply s_store; exact rfl; exact rfl; exact rfl; exact rfl; exact rfl; exact rfl; (focus repeat' (first | exact nl_nil rfl | (apply nl_cons; exact rfl) | exact nIm rfl | exact nSl rfl | exact nIv rfl | exact nRow rfl | exact nNil rfl | exact nPtr rfl | exact nBsh rfl | exact nBsl rfl | exact nAny rfl | exact nIIm rfl | exact nISl rfl | exact rfl))) | (apply s_addI; exact rfl; exact rfl; exact rfl; (first | omega | decide | (dsimp only; omega)); (first | omega | decide | (dsimp only; omega))) | (apply s_indexA; exact rfl; exact rfl; exact rfl; (first | omega | decide | (dsimp only; omega)); (exact Go.Abs.getM (by assumption)); exact rfl) | (apply s_addS; exact rfl; exact rfl; exact rfl; (first | omega | (dsimp only; omega) | (simp; done) | (simp; omega)))) | (refine c_seq ?_) | (refine L.block ?_) | (refine s_region ?_) | (refine L.thenN ?_) | (refine L.inN ?_) | (refine L.skip ?_) | (apply c_condT; exact rfl; (first | exact rfl | assumption)) | (apply c_condF; exact rfl; (first | exact rfl | assumption))))
        refine hK _ (i + 1) hnext (by omega) (Wk.mk' (by intro id h; cases h) (.cons rfl (Sub.refl _) (.cons rfl (Sub.refl _) (.cons rfl (Sub.refl _) (.cons rfl (Sub.of_eq (congrArg (fun z => aS z) ?_)) .nil)))) .nil .nil)
        rw [hq, hacc, keyOne0]
      · have hb4 : (be4 (n + 1073741824)).length = 4 := rfl
        have hbe : (some [[IV.im (.int .u8 (IntKind.u8.wrap ((n + 1073741824).tdiv 16777216)))], [IV.im (.int .u8 (IntKind.u8.wrap (((n + 1073741824).tdiv 65536).tmod 256)))], [IV.im (.int .u8 (IntKind.u8.wrap (((n + 1073741824).tdiv 256).tmod 256)))], [IV.im (.int .u8 (IntKind.u8.wrap ((n + 1073741824).tmod 256)))]] : Option (List (List IV))) = some ((be4 (n + 1073741824)).map cB) := by
          have t : ∀ a b : Int, 0 ≤ a → 0 ≤ b → a.tdiv b = a / b := fun a b h h' => Int.tdiv_eq_ediv_of_nonneg h
          have m : ∀ a b : Int, 0 ≤ a → 0 ≤ b → a.tmod b = a % b := fun a b h h' => Int.tmod_eq_emod_of_nonneg h
          rw [t _ _ (by omega) (by omega), t _ _ (by omega) (by omega), t _ _ (by omega) (by omega), m _ _ (by omega) (by omega), m _ _ (by omega) (by omega), m _ _ (by omega) (by omega)]
          simp only [be4, List.map_cons, List.map_nil, cB, u8_wrap, IntKind.wrap_u8, Int.emod_emod_of_dvd _ (Int.dvd_refl 256)]
        (repeat' (first | (refine LW.is ?_; first | ((apply s_call0; exact rfl; exact isval_any ⟨1, n, []⟩ hsv; exact rfl; exact rfl)) | ((apply s_bytesS; exact rfl; exact hbe)) | (refine s_nil ?_) | (apply s_mvIv; exact rfl; exact rfl) | (apply s_asIv; exact rfl; exact rfl) | (apply s_fieldP; exact rfl; exact rfl; exact rfl) | (apply s_load1P; exact rfl; exact rfl; exact rfl; (apply n_some; exact rfl; (first | exact nIm rfl | exact nSl rfl | exact nIv rfl | exact nRow rfl | exact nNil rfl | exact nPtr rfl | exact nBsh rfl | exact nBsl rfl | exact nAny rfl | exact rfl))) | (apply s_loadAP; exact rfl; exact rfl; exact rfl; (focus repeat' (first | exact nl_nil rfl | (apply nl_cons; exact rfl) | exact nIm rfl | exact nSl rfl | exact nIv rfl | exact nRow rfl | exact nNil rfl | exact nPtr rfl | exact nBsh rfl | exact nBsl rfl | exact nAny rfl | exact nIIm rfl | exact nISl rfl | exact rfl)); exact rfl) | (apply s_loadAE; exact rfl; exact rfl; (focus repeat' (first | exact nl_nil rfl | (apply nl_cons; exact rfl) | exact nIm rfl | exact nSl rfl | exact nIv rfl | exact nRow rfl | exact nNil rfl | exact nPtr rfl | exact nBsh rfl | exact nBsl rfl | exact nAny rfl | exact nIIm rfl | exact nISl rfl | exact rfl)); exact rfl) | (apply s_eqlI; exact rfl; exact rfl; exact rfl) | (apply s_lssI; exact rfl; exact rfl; exact rfl) | (apply s_not; exact rfl; exact rfl) | (apply s_alloc; exact rfl; exact rfl; (focus repeat' (first | exact nl_nil rfl | (apply nl_cons; exact rfl) | exact nIm rfl | exact nSl rfl | exact nIv rfl | exact nRow rfl | exact nNil rfl | exact nPtr rfl | exact nBsh rfl | exact nBsl rfl | exact nAny rfl | exact nIIm rfl | exact nISl rfl | exact rfl)); exact rfl; exact rfl) | (apply s_bslice; exact rfl; exact rfl; exact rfl; exact rfl; exact rfl; (apply n_some; exact rfl; (focus repeat' (first | exact nl_nil rfl | (apply nl_cons; exact rfl) | exact nIm rfl | exact nSl rfl | exact nIv rfl | exact nRow rfl | exact nNil rfl | exact nPtr rfl | exact nBsh rfl | exact nBsl rfl | exact nAny rfl | exact nIIm rfl | exact nISl rfl | exact rfl))); (apply n_some; exact rfl; (focus repeat' (first | exact nl_nil rfl | (apply nl_cons; exact rfl) | exact nIm rfl | exact nSl rfl | exact nIv rfl | exact nRow rfl | exact nNil rfl | exact nPtr rfl | exact nBsh rfl | exact nBsl rfl | exact nAny rfl | exact nIIm rfl | exact nISl rfl | exact rfl))); exact rfl; (focus repeat' (first | exact nl_nil rfl | (apply nl_cons; exact rfl) | exact nIm rfl | exact nSl rfl | exact nIv rfl | exact nRow rfl | exact nNil rfl | exact nPtr rfl | exact nBsh rfl | exact nBsl rfl | exact nAny rfl | exact nIIm rfl | exact nISl rfl | exact rfl)); exact rfl) | (apply s_store; exact rfl; exact rfl; exact rfl; exact rfl; exact rfl; exact rfl; (focus repeat' (first | exact nl_nil rfl | (apply nl_cons; exact rfl) | exact nIm rfl | exact nSl rfl | exact nIv rfl | exact nRow rfl | exact nNil rfl | exact nPtr rfl | exact nBsh rfl | exact nBsl rfl | exact nAny rfl | exact nIIm rfl | exact nISl rfl | exact rfl))) | (apply s_addI; exact rfl; exact rfl; exact rfl; (first | omega | decide | (dsimp only; omega)); (first | omega | decide | (dsimp only; omega))) | (apply s_conv; exact rfl; exact rfl) | (apply s_indexA; exact rfl; exact rfl; exact rfl; (first | omega | decide | (dsimp only; omega)); (exact Go.Abs.getM (by assumption)); exact rfl) | (apply s_addS; exact rfl; exact rfl; exact rfl; (first | omega | (dsimp only; omega) | (simp; done) | (simp; omega))) | (apply s_quoI; exact rfl; exact rfl; exact rfl; (first | decide | omega | (dsimp only; omega)); (first | omega | decide | (dsimp only; omega)); (first | omega | decide | (dsimp only; omega))) | (apply s_remI; exact rfl; exact rfl; exact rfl; (first | decide | omega | (dsimp only; omega)))) | (refine c_seq ?_) | (refine L.block ?_) | (refine s_region ?_) | (refine L.thenN ?_) | (refine L.inN ?_) | (refine L.skip ?_) | (apply c_condT; exact rfl; (first | exact rfl | assumption)) | (apply c_condF; exact rfl; (first | exact rfl | assumption))))
        refine hK _ (i + 1) hnext (by omega) (Wk.mk' (by intro id h; cases h) (.cons rfl (Sub.refl _) (.cons rfl (Sub.refl _) (.cons rfl (Sub.refl _) (.cons rfl (Sub.of_eq (congrArg (fun z => aS z) ?_)) .nil)))) .nil .nil)
        rw [hq, hacc, keyOne1]; rfl
      · (repeat' (first | (refine LW.is ?_; first | ((apply s_call0; exact rfl; exact isval_any ⟨2, 0, s⟩ hsv; exact rfl; exact rfl)) | (refine s_nil ?_) | (apply s_mvIv; exact rfl; exact rfl) | (apply s_asIv; exact rfl; exact rfl) | (apply s_fieldP; exact rfl; exact rfl; exact rfl) | (apply s_load1P; exact rfl; exact rfl; exact rfl; (apply n_some; exact rfl; (first | exact nIm rfl | exact nSl rfl | exact nIv rfl | exact nRow rfl | exact nNil rfl | exact nPtr rfl | exact nBsh rfl | exact nBsl rfl | exact nAny rfl | exact rfl))) | (apply s_loadAP; exact rfl; exact rfl; exact rfl; (focus repeat' (first | exact nl_nil rfl | (apply nl_cons; exact rfl) | exact nIm rfl | exact nSl rfl | exact nIv rfl | exact nRow rfl | exact nNil rfl | exact nPtr rfl | exact nBsh rfl | exact nBsl rfl | exact nAny rfl | exact nIIm rfl | exact nISl rfl | exact rfl)); exact rfl) | (apply s_loadAE; exact rfl; exact rfl; (focus repeat' (first | exact nl_nil rfl | (apply nl_cons; exact rfl) | exact nIm rfl | exact nSl rfl | exact nIv rfl | exact nRow rfl | exact nNil rfl | exact nPtr rfl | exact nBsh rfl | exact nBsl rfl | exact nAny rfl | exact nIIm rfl | exact nISl rfl | exact rfl)); exact rfl) | (apply s_eqlI; exact rfl; exact rfl; exact rfl) | (apply s_lssI; exact rfl; exact rfl; exact rfl) | (apply s_not; exact rfl; exact rfl) | (apply s_alloc; exact rfl; exact rfl; (focus repeat' (first | exact nl_nil rfl | (apply nl_cons; exact rfl) | exact nIm rfl | exact nSl rfl | exact nIv rfl | exact nRow rfl | exact nNil rfl | exact nPtr rfl | exact nBsh rfl | exact nBsl rfl | exact nAny rfl | exact nIIm rfl | exact nISl rfl | exact rfl)); exact rfl; exact rfl) | (apply s_store; exact rfl; exact rfl; exact rfl; exact rfl; exact rfl; exact rfl; (focus repeat' (first | exact nl_nil rfl | (apply nl_cons; exact rfl) | exact nIm rfl | exact nSl rfl | exact nIv rfl | exact nRow rfl | exact nNil rfl | exact nPtr rfl | exact nBsh rfl | exact nBsl rfl | exact nAny rfl | exact nIIm rfl | exact nISl rfl | exact rfl))) | (apply s_addI; exact rfl; exact rfl; exact rfl; (first | omega | decide | (dsimp only; omega)); (first | omega | decide | (dsimp only; omega))) | (apply s_indexA; exact rfl; exact rfl; exact rfl; (first | omega | decide | (dsimp only; omega)); (exact Go.Abs.getM (by assumption)); exact rfl) | (apply s_addS; exact rfl; exact rfl; exact rfl; (first | omega | (dsimp only; omega) | (simp; done) | (simp; omega)))) | (refine c_seq ?_) | (refine L.block ?_) | (refine s_region ?_) | (refine L.thenN ?_) | (refine L.inN ?_) | (refine L.skip ?_) | (apply c_condT; exact rfl; (first | exact rfl | assumption)) | (apply c_condF; exact rfl; (first | exact rfl | assumption))))
        refine hK _ (i + 1) hnext (by omega) (Wk.mk' (by intro id h; cases h) (.cons rfl (Sub.refl _) (.cons rfl (Sub.refl _) (.cons rfl (Sub.refl _) (.cons rfl (Sub.of_eq (congrArg (fun z => aS z) ?_)) .nil)))) .nil .nil)
        rw [hq, hacc, keyOne2]; rfl
end Go.Proofs.YthkobnpogigkiaaDoor
/- Trees: the given trees' own look at the tree answers true. Conditions: none. -/
namespace Go.Proofs.YthkobnpogigkiaaDoor
open Go.Abs
attribute [local irreducible] L Code.wp bodyPost Exit.then Exit.inBlock
set_option linter.unusedVariables false
set_option linter.unusedSimpArgs false
end Go.Proofs.YthkobnpogigkiaaDoor
/- Trees: TreeKeeps answers true. Conditions: how much there is of what comes in. -/
namespace Go.Proofs.YthkobnpogigkiaaDoor
open Go.Abs
attribute [local irreducible] L Code.wp bodyPost Exit.then Exit.inBlock
set_option linter.unusedVariables false
set_option linter.unusedSimpArgs false
end Go.Proofs.YthkobnpogigkiaaDoor
/- Trees, the document's: what pages, SamePairs, PutPair and DropPair compute. Conditions: how much there is of what comes in. -/
namespace Go.Proofs.YthkobnpogigkiaaDoor
open Go.Abs
attribute [local irreducible] L Code.wp bodyPost Exit.then Exit.inBlock
set_option linter.unusedVariables false
set_option linter.unusedSimpArgs false
def Pr.c (x : Pr) : List IV := [S x.1, S x.2]
set_option maxRecDepth 100000 in
set_option maxHeartbeats 4000000 in
theorem putPair_any (l : List Pr) (k v : Str) (hl : (l.length + 1) * 32 ≤ 225000000000000) :
    CallA Tryd.prog 33 [.iv (.sl (l.map Pr.c)), aS k, aS v] [] [] [] (.iv (.sl ((putF l k v).map Pr.c))) := by
  refine CallA.intro _ Tryd.func33 rfl Tryd.ntmps33 rfl (fun w0 E0 => ?_)
  (repeat' (first | (refine LW.is ?_; first | (refine s_nil ?_) | (apply s_mvIv; exact rfl; exact rfl) | (apply s_asNil; exact rfl; exact rfl) | (apply s_lenSl; exact rfl; exact rfl)) | (refine c_seq ?_) | (refine L.block ?_) | (refine s_region ?_) | (refine L.thenN ?_)))
  refine L.adopt 7 (s := 7) (t := 77) (k := 2) rfl rfl rfl ?_
  refine L.loopP (ι := Nat) (fun i => ⟨[(14, aI (i : Int)), (13, aI ((l.map Pr.c).length : Int)), (12, .iv (.sl (l.map Pr.c))), (7, .row 7 (((l.take i).filter (fun x : Pr => decide (x.1 < k))).map Pr.c)), (0, .iv (.sl (l.map Pr.c))), (1, aS k), (2, aS v)], [], [(7, ⟨77, 2⟩)]⟩) (fun i => l.length - i) (fun i => True) (i0 := 0) ?_ trivial ?_
  · (refine Wk.mk' (by intro id h; cases h) ?_ ?_ ?_ <;> repeat' (first | exact WkF.nil | exact WkB.nil | exact WkT.nil | (refine WkF.cons rfl (Sub.refl _) ?_) | (refine WkB.cons rfl rfl (Subs.refl _) ?_) | (refine WkT.cons rfl ?_)))
  intro i _ K hK
  cases hx : l[i]? with
  | none =>
    have hlt := ltF (l := l.map Pr.c) (getFN hx)
    rw [take_all hx]
    have hfl := List.length_filter_le (fun x : Pr => decide (x.1 < k)) l
    clear hx hK
    generalize hA : l.filter (fun x : Pr => decide (x.1 < k)) = A at *
    (repeat' (first | (refine LW.is ?_; first | (refine s_nil ?_) | (apply s_mvIv; exact rfl; exact rfl) | (apply s_mvRow; exact rfl; exact rfl) | (apply s_asRow; exact rfl; exact rfl) | (apply s_lenSl; exact rfl; exact rfl) | (apply s_lssI; exact rfl; exact rfl; exact rfl) | (apply s_build; exact rfl; exact rfl; (apply n_some; exact rfl; (focus repeat' (first | exact nl_nil rfl | (apply nl_cons; exact rfl) | exact nIm rfl | exact nSl rfl | exact nIv rfl | exact nRow rfl | exact nNil rfl | exact nPtr rfl | exact nBsh rfl | exact nBsl rfl | exact nAny rfl | exact nIIm rfl | exact nISl rfl | exact rfl)))) | (apply s_bslice; exact rfl; exact rfl; exact rfl; exact rfl; exact rfl; (apply n_some; exact rfl; (focus repeat' (first | exact nl_nil rfl | (apply nl_cons; exact rfl) | exact nIm rfl | exact nSl rfl | exact nIv rfl | exact nRow rfl | exact nNil rfl | exact nPtr rfl | exact nBsh rfl | exact nBsl rfl | exact nAny rfl | exact nIIm rfl | exact nISl rfl | exact rfl))); (apply n_some; exact rfl; (focus repeat' (first | exact nl_nil rfl | (apply nl_cons; exact rfl) | exact nIm rfl | exact nSl rfl | exact nIv rfl | exact nRow rfl | exact nNil rfl | exact nPtr rfl | exact nBsh rfl | exact nBsl rfl | exact nAny rfl | exact nIIm rfl | exact nISl rfl | exact rfl))); exact rfl; (focus repeat' (first | exact nl_nil rfl | (apply nl_cons; exact rfl) | exact nIm rfl | exact nSl rfl | exact nIv rfl | exact nRow rfl | exact nNil rfl | exact nPtr rfl | exact nBsh rfl | exact nBsl rfl | exact nAny rfl | exact nIIm rfl | exact nISl rfl | exact rfl)); exact rfl) | (apply s_append; exact rfl; exact rfl; exact rfl; exact rfl; (focus repeat' (first | exact len_nil | apply len_app | (refine len_map (fun x => rfl)) | (refine len_cons rfl ?_) | exact len_chunks rfl | assumption)); (focus repeat' (first | exact len_nil | apply len_app | (refine len_map (fun x => rfl)) | (refine len_cons rfl ?_) | exact len_chunks rfl | assumption)); (first | (simp [maxLen, chunks_length]; done) | (simp [maxLen, chunks_length]; omega)); (first | (simp [maxLen, chunks_length]; done) | (simp [maxLen, chunks_length]; omega)); exact rfl; exact rfl)) | (refine c_seq ?_) | (refine L.block ?_) | (refine s_region ?_) | (refine L.thenN ?_) | (refine L.thenE ?_) | (refine L.inE ?_) | (refine L.exit ?_) | (apply c_condF; exact rfl; (first | exact rfl | assumption))))
    refine L.only [35, 34, 33, 7, 1] ?_
    refine L.retok 7 32 7 rfl rfl rfl rfl ?_
    refine L.loopP (ι := Nat) (fun i => ⟨[(35, aI (i : Int)), (34, aI ((l.map Pr.c).length : Int)), (33, .iv (.sl (l.map Pr.c))), (7, .row 7 ((A ++ (k, v) :: (l.take i).filter (fun x : Pr => decide (k < x.1))).map Pr.c)), (1, aS k)], [], [(7, ⟨77, 2⟩)]⟩) (fun i => l.length - i) (fun i => A.length + ((l.take i).filter (fun x : Pr => decide (k < x.1))).length ≤ i + A.length ∧ A.length + (l.filter (fun x : Pr => decide (k < x.1))).length ≤ l.length) (i0 := 0) ?_ ?_ ?_
    · refine Wk.mk' (by intro id h; cases h) (.cons rfl (Sub.refl _) (.cons rfl (Sub.refl _) (.cons rfl (Sub.refl _) (.cons rfl (Sub.of_eq (congrArg (AV.row 7) ?_)) (.cons rfl (Sub.refl _) .nil))))) .nil (.cons rfl .nil)
      simp [chunks, Pr.c]
    · refine ⟨by simp, ?_⟩
      rw [← hA]
      clear hA hfl hlt hl
      induction l with
      | nil => simp
      | cons x l ih =>
        simp only [List.filter_cons]
        rcases lt_tri x.1 k with h | h | h
        · simp [h, List.lt_asymm h]; omega
        · simp [h, List.lt_irrefl]; omega
        · simp [h, List.lt_asymm h]; omega
    intro i ⟨_, hb⟩ K hK
    have hbi : ((l.take i).filter (fun x : Pr => decide (k < x.1))).length ≤ (l.filter (fun x : Pr => decide (k < x.1))).length := (List.Sublist.filter _ (List.take_sublist _ _)).length_le
    cases hx : l[i]? with
    | none =>
      have hlt := ltF (l := l.map Pr.c) (getFN hx)
      (repeat' (first | (refine LW.is ?_; first | (refine s_nil ?_) | (apply s_mvRow; exact rfl; exact rfl) | (apply s_asRow; exact rfl; exact rfl) | (apply s_lssI; exact rfl; exact rfl; exact rfl)) | (refine c_seq ?_) | (refine s_region ?_) | (refine L.thenN ?_) | (refine L.thenE ?_) | (refine L.inE ?_) | (refine L.ret ?_) | (refine L.exit ?_) | (apply c_condF; exact rfl; (first | exact rfl | assumption))))
      all_goals (first | (apply L.ends1; exact rfl; exact rfl; exact rfl) | (apply L.ends2; exact rfl; exact rfl; exact rfl) | (apply L.ends3; exact rfl; exact rfl; exact rfl) | (apply L.ends1A; exact rfl; exact rfl; exact rfl) | (apply L.ends2A; exact rfl; exact rfl; exact rfl))
      rw [take_all hx, ← hA]; rfl
    | some x =>
      have hlt := ltT (l := l.map Pr.c) (getF (f := Pr.c) hx)
      have hlt' := ltN hx
      have g1 : (l.map Pr.c)[((i : Nat) : Int).toNat]? = some [S x.1, S x.2] := by rw [Int.toNat_natCast, List.getElem?_map, hx]; rfl
      have hst := filter_step (fun x : Pr => decide (k < x.1)) hx
      have hbs : ((l.take (i + 1)).filter (fun x : Pr => decide (k < x.1))).length ≤ i + 1 := Nat.le_trans (List.length_filter_le _ _) (by simp; omega)
      have hge : (!(Op.bytesLess x.1 k || x.1 == k)) = decide (k < x.1) := by rw [leS, Bool.eq_iff_iff]; simp
      cases hq : decide (k < x.1) with
      | false =>
        rw [hq] at hge
        (repeat' (first | (refine LW.is ?_; first | ((apply s_indexA; exact rfl; exact rfl; exact rfl; omega; exact g1; exact rfl)) | (refine s_nil ?_) | (apply s_mvIv; exact rfl; exact rfl) | (apply s_fieldP; exact rfl; exact rfl; exact rfl) | (apply s_load1P; exact rfl; exact rfl; exact rfl; (apply n_some; exact rfl; (first | exact nIm rfl | exact nSl rfl | exact nIv rfl | exact nRow rfl | exact nNil rfl | exact nPtr rfl | exact nBsh rfl | exact nBsl rfl | exact nAny rfl | exact rfl))) | (apply s_loadAE; exact rfl; exact rfl; (focus repeat' (first | exact nl_nil rfl | (apply nl_cons; exact rfl) | exact nIm rfl | exact nSl rfl | exact nIv rfl | exact nRow rfl | exact nNil rfl | exact nPtr rfl | exact nBsh rfl | exact nBsl rfl | exact nAny rfl | exact nIIm rfl | exact nISl rfl | exact rfl)); exact rfl) | (apply s_lssI; exact rfl; exact rfl; exact rfl) | (apply s_gtrS; exact rfl; exact rfl; exact rfl) | (apply s_alloc; exact rfl; exact rfl; (focus repeat' (first | exact nl_nil rfl | (apply nl_cons; exact rfl) | exact nIm rfl | exact nSl rfl | exact nIv rfl | exact nRow rfl | exact nNil rfl | exact nPtr rfl | exact nBsh rfl | exact nBsl rfl | exact nAny rfl | exact nIIm rfl | exact nISl rfl | exact rfl)); exact rfl; exact rfl) | (apply s_store; exact rfl; exact rfl; exact rfl; exact rfl; exact rfl; exact rfl; (focus repeat' (first | exact nl_nil rfl | (apply nl_cons; exact rfl) | exact nIm rfl | exact nSl rfl | exact nIv rfl | exact nRow rfl | exact nNil rfl | exact nPtr rfl | exact nBsh rfl | exact nBsl rfl | exact nAny rfl | exact nIIm rfl | exact nISl rfl | exact rfl))) | (apply s_addI; exact rfl; exact rfl; exact rfl; (first | omega | decide | (dsimp only; omega)); (first | omega | decide | (dsimp only; omega)))) | (refine c_seq ?_) | (refine L.block ?_) | (refine s_region ?_) | (refine L.thenN ?_) | (refine L.inN ?_) | (refine L.skip ?_) | (apply c_condT; exact rfl; (first | exact rfl | assumption)) | (apply c_condF; exact rfl; (first | exact rfl | assumption))))
        rw [hq, if_neg (by simp), List.append_nil] at hst
        refine hK _ (i + 1) ⟨by omega, hb⟩ (by omega) ?_
        rw [hst]
        (refine Wk.mk' (by intro id h; cases h) ?_ ?_ ?_ <;> repeat' (first | exact WkF.nil | exact WkB.nil | exact WkT.nil | (refine WkF.cons rfl (Sub.refl _) ?_) | (refine WkB.cons rfl rfl (Subs.refl _) ?_) | (refine WkT.cons rfl ?_)))
      | true =>
        rw [hq] at hge
        have hb2 : ((l.take (i + 1)).filter (fun x : Pr => decide (k < x.1))).length ≤ (l.filter (fun x : Pr => decide (k < x.1))).length := (List.Sublist.filter _ (List.take_sublist _ _)).length_le
        have hl2 := congrArg List.length hst
        rw [hq, if_pos rfl, List.length_append, List.length_singleton] at hl2
        have hlen : ((A ++ (k, v) :: (l.take i).filter (fun x : Pr => decide (k < x.1))).map Pr.c).length + 1 ≤ l.length + 1 := by
          rw [List.length_map, List.length_append, List.length_cons]; omega
        have bm : ((A ++ (k, v) :: (l.take i).filter (fun x : Pr => decide (k < x.1))).map Pr.c).length + 1 ≤ maxLen := by rw [maxL]; omega
        have bb : (((A ++ (k, v) :: (l.take i).filter (fun x : Pr => decide (k < x.1))).map Pr.c).length + 1) * 32 ≤ 225000000000000 := by omega
        (repeat' (first | (refine LW.is ?_; first | ((apply s_append; exact rfl; exact rfl; exact rfl; exact rfl; (focus repeat' (first | exact len_nil | apply len_app | (refine len_map (fun x => rfl)) | (refine len_cons rfl ?_) | exact len_chunks rfl | assumption)); (focus repeat' (first | exact len_nil | apply len_app | (refine len_map (fun x => rfl)) | (refine len_cons rfl ?_) | exact len_chunks rfl | assumption)); exact bm; exact bb; exact rfl; exact rfl)) | ((apply s_indexA; exact rfl; exact rfl; exact rfl; omega; exact g1; exact rfl)) | (refine s_nil ?_) | (apply s_mvIv; exact rfl; exact rfl) | (apply s_mvRow; exact rfl; exact rfl) | (apply s_asRow; exact rfl; exact rfl) | (apply s_fieldP; exact rfl; exact rfl; exact rfl) | (apply s_load1P; exact rfl; exact rfl; exact rfl; (apply n_some; exact rfl; (first | exact nIm rfl | exact nSl rfl | exact nIv rfl | exact nRow rfl | exact nNil rfl | exact nPtr rfl | exact nBsh rfl | exact nBsl rfl | exact nAny rfl | exact rfl))) | (apply s_loadAP; exact rfl; exact rfl; exact rfl; (focus repeat' (first | exact nl_nil rfl | (apply nl_cons; exact rfl) | exact nIm rfl | exact nSl rfl | exact nIv rfl | exact nRow rfl | exact nNil rfl | exact nPtr rfl | exact nBsh rfl | exact nBsl rfl | exact nAny rfl | exact nIIm rfl | exact nISl rfl | exact rfl)); exact rfl) | (apply s_loadAE; exact rfl; exact rfl; (focus repeat' (first | exact nl_nil rfl | (apply nl_cons; exact rfl) | exact nIm rfl | exact nSl rfl | exact nIv rfl | exact nRow rfl | exact nNil rfl | exact nPtr rfl | exact nBsh rfl | exact nBsl rfl | exact nAny rfl | exact nIIm rfl | exact nISl rfl | exact rfl)); exact rfl) | (apply s_lssI; exact rfl; exact rfl; exact rfl) | (apply s_gtrS; exact rfl; exact rfl; exact rfl) | (apply s_alloc; exact rfl; exact rfl; (focus repeat' (first | exact nl_nil rfl | (apply nl_cons; exact rfl) | exact nIm rfl | exact nSl rfl | exact nIv rfl | exact nRow rfl | exact nNil rfl | exact nPtr rfl | exact nBsh rfl | exact nBsl rfl | exact nAny rfl | exact nIIm rfl | exact nISl rfl | exact rfl)); exact rfl; exact rfl) | (apply s_bslice; exact rfl; exact rfl; exact rfl; exact rfl; exact rfl; (apply n_some; exact rfl; (focus repeat' (first | exact nl_nil rfl | (apply nl_cons; exact rfl) | exact nIm rfl | exact nSl rfl | exact nIv rfl | exact nRow rfl | exact nNil rfl | exact nPtr rfl | exact nBsh rfl | exact nBsl rfl | exact nAny rfl | exact nIIm rfl | exact nISl rfl | exact rfl))); (apply n_some; exact rfl; (focus repeat' (first | exact nl_nil rfl | (apply nl_cons; exact rfl) | exact nIm rfl | exact nSl rfl | exact nIv rfl | exact nRow rfl | exact nNil rfl | exact nPtr rfl | exact nBsh rfl | exact nBsl rfl | exact nAny rfl | exact nIIm rfl | exact nISl rfl | exact rfl))); exact rfl; (focus repeat' (first | exact nl_nil rfl | (apply nl_cons; exact rfl) | exact nIm rfl | exact nSl rfl | exact nIv rfl | exact nRow rfl | exact nNil rfl | exact nPtr rfl | exact nBsh rfl | exact nBsl rfl | exact nAny rfl | exact nIIm rfl | exact nISl rfl | exact rfl)); exact rfl) | (apply s_store; exact rfl; exact rfl; exact rfl; exact rfl; exact rfl; exact rfl; (focus repeat' (first | exact nl_nil rfl | (apply nl_cons; exact rfl) | exact nIm rfl | exact nSl rfl | exact nIv rfl | exact nRow rfl | exact nNil rfl | exact nPtr rfl | exact nBsh rfl | exact nBsl rfl | exact nAny rfl | exact nIIm rfl | exact nISl rfl | exact rfl))) | (apply s_addI; exact rfl; exact rfl; exact rfl; (first | omega | decide | (dsimp only; omega)); (first | omega | decide | (dsimp only; omega)))) | (refine c_seq ?_) | (refine L.block ?_) | (refine s_region ?_) | (refine L.thenN ?_) | (refine L.inN ?_) | (refine L.skip ?_) | (apply c_condT; exact rfl; (first | exact rfl | assumption))))
        rw [hq, if_pos rfl] at hst
        refine L.only [35, 34, 33, 7, 1] ?_
        refine L.retok 7 46 7 rfl rfl rfl rfl ?_
        refine hK _ (i + 1) ⟨by omega, hb⟩ (by omega) (Wk.mk' (by intro id h; cases h) (.cons rfl (Sub.refl _) (.cons rfl (Sub.refl _) (.cons rfl (Sub.refl _) (.cons rfl (Sub.of_eq (congrArg (AV.row 7) ?_)) (.cons rfl (Sub.refl _) .nil))))) .nil (.cons rfl .nil))
        rw [hst]; simp [chunks, Pr.c]
  | some x =>
    have hlt := ltT (l := l.map Pr.c) (getF (f := Pr.c) hx)
    have hlt' := ltN hx
    have g1 : (l.map Pr.c)[((i : Nat) : Int).toNat]? = some [S x.1, S x.2] := by rw [Int.toNat_natCast, List.getElem?_map, hx]; rfl
    have hst := filter_step (fun x : Pr => decide (x.1 < k)) hx
    have hfl := filter_len (fun x : Pr => decide (x.1 < k)) l i
    have hge : Op.bytesLess x.1 k = decide (x.1 < k) := ltS
    cases hq : decide (x.1 < k) with
    | false =>
      rw [hq] at hge
      (repeat' (first | (refine LW.is ?_; first | ((apply s_indexA; exact rfl; exact rfl; exact rfl; omega; exact g1; exact rfl)) | (refine s_nil ?_) | (apply s_mvIv; exact rfl; exact rfl) | (apply s_fieldP; exact rfl; exact rfl; exact rfl) | (apply s_load1P; exact rfl; exact rfl; exact rfl; (apply n_some; exact rfl; (first | exact nIm rfl | exact nSl rfl | exact nIv rfl | exact nRow rfl | exact nNil rfl | exact nPtr rfl | exact nBsh rfl | exact nBsl rfl | exact nAny rfl | exact rfl))) | (apply s_loadAE; exact rfl; exact rfl; (focus repeat' (first | exact nl_nil rfl | (apply nl_cons; exact rfl) | exact nIm rfl | exact nSl rfl | exact nIv rfl | exact nRow rfl | exact nNil rfl | exact nPtr rfl | exact nBsh rfl | exact nBsl rfl | exact nAny rfl | exact nIIm rfl | exact nISl rfl | exact rfl)); exact rfl) | (apply s_lssI; exact rfl; exact rfl; exact rfl) | (apply s_lssS; exact rfl; exact rfl; exact rfl) | (apply s_alloc; exact rfl; exact rfl; (focus repeat' (first | exact nl_nil rfl | (apply nl_cons; exact rfl) | exact nIm rfl | exact nSl rfl | exact nIv rfl | exact nRow rfl | exact nNil rfl | exact nPtr rfl | exact nBsh rfl | exact nBsl rfl | exact nAny rfl | exact nIIm rfl | exact nISl rfl | exact rfl)); exact rfl; exact rfl) | (apply s_store; exact rfl; exact rfl; exact rfl; exact rfl; exact rfl; exact rfl; (focus repeat' (first | exact nl_nil rfl | (apply nl_cons; exact rfl) | exact nIm rfl | exact nSl rfl | exact nIv rfl | exact nRow rfl | exact nNil rfl | exact nPtr rfl | exact nBsh rfl | exact nBsl rfl | exact nAny rfl | exact nIIm rfl | exact nISl rfl | exact rfl))) | (apply s_addI; exact rfl; exact rfl; exact rfl; (first | omega | decide | (dsimp only; omega)); (first | omega | decide | (dsimp only; omega)))) | (refine c_seq ?_) | (refine L.block ?_) | (refine s_region ?_) | (refine L.thenN ?_) | (refine L.inN ?_) | (refine L.skip ?_) | (apply c_condT; exact rfl; (first | exact rfl | assumption)) | (apply c_condF; exact rfl; (first | exact rfl | assumption))))
      rw [hq, if_neg (by simp), List.append_nil] at hst
      refine hK _ (i + 1) trivial (by omega) ?_
      rw [hst]
      (refine Wk.mk' (by intro id h; cases h) ?_ ?_ ?_ <;> repeat' (first | exact WkF.nil | exact WkB.nil | exact WkT.nil | (refine WkF.cons rfl (Sub.refl _) ?_) | (refine WkB.cons rfl rfl (Subs.refl _) ?_) | (refine WkT.cons rfl ?_)))
    | true =>
      rw [hq] at hge
      (repeat' (first | (refine LW.is ?_; first | ((apply s_indexA; exact rfl; exact rfl; exact rfl; omega; exact g1; exact rfl)) | (refine s_nil ?_) | (apply s_mvIv; exact rfl; exact rfl) | (apply s_mvRow; exact rfl; exact rfl) | (apply s_asRow; exact rfl; exact rfl) | (apply s_fieldP; exact rfl; exact rfl; exact rfl) | (apply s_load1P; exact rfl; exact rfl; exact rfl; (apply n_some; exact rfl; (first | exact nIm rfl | exact nSl rfl | exact nIv rfl | exact nRow rfl | exact nNil rfl | exact nPtr rfl | exact nBsh rfl | exact nBsl rfl | exact nAny rfl | exact rfl))) | (apply s_loadAP; exact rfl; exact rfl; exact rfl; (focus repeat' (first | exact nl_nil rfl | (apply nl_cons; exact rfl) | exact nIm rfl | exact nSl rfl | exact nIv rfl | exact nRow rfl | exact nNil rfl | exact nPtr rfl | exact nBsh rfl | exact nBsl rfl | exact nAny rfl | exact nIIm rfl | exact nISl rfl | exact rfl)); exact rfl) | (apply s_loadAE; exact rfl; exact rfl; (focus repeat' (first | exact nl_nil rfl | (apply nl_cons; exact rfl) | exact nIm rfl | exact nSl rfl | exact nIv rfl | exact nRow rfl | exact nNil rfl | exact nPtr rfl | exact nBsh rfl | exact nBsl rfl | exact nAny rfl | exact nIIm rfl | exact nISl rfl | exact rfl)); exact rfl) | (apply s_lssI; exact rfl; exact rfl; exact rfl) | (apply s_lssS; exact rfl; exact rfl; exact rfl) | (apply s_alloc; exact rfl; exact rfl; (focus repeat' (first | exact nl_nil rfl | (apply nl_cons; exact rfl) | exact nIm rfl | exact nSl rfl | exact nIv rfl | exact nRow rfl | exact nNil rfl | exact nPtr rfl | exact nBsh rfl | exact nBsl rfl | exact nAny rfl | exact nIIm rfl | exact nISl rfl | exact rfl)); exact rfl; exact rfl) | (apply s_bslice; exact rfl; exact rfl; exact rfl; exact rfl; exact rfl; (apply n_some; exact rfl; (focus repeat' (first | exact nl_nil rfl | (apply nl_cons; exact rfl) | exact nIm rfl | exact nSl rfl | exact nIv rfl | exact nRow rfl | exact nNil rfl | exact nPtr rfl | exact nBsh rfl | exact nBsl rfl | exact nAny rfl | exact nIIm rfl | exact nISl rfl | exact rfl))); (apply n_some; exact rfl; (focus repeat' (first | exact nl_nil rfl | (apply nl_cons; exact rfl) | exact nIm rfl | exact nSl rfl | exact nIv rfl | exact nRow rfl | exact nNil rfl | exact nPtr rfl | exact nBsh rfl | exact nBsl rfl | exact nAny rfl | exact nIIm rfl | exact nISl rfl | exact rfl))); exact rfl; (focus repeat' (first | exact nl_nil rfl | (apply nl_cons; exact rfl) | exact nIm rfl | exact nSl rfl | exact nIv rfl | exact nRow rfl | exact nNil rfl | exact nPtr rfl | exact nBsh rfl | exact nBsl rfl | exact nAny rfl | exact nIIm rfl | exact nISl rfl | exact rfl)); exact rfl) | (apply s_store; exact rfl; exact rfl; exact rfl; exact rfl; exact rfl; exact rfl; (focus repeat' (first | exact nl_nil rfl | (apply nl_cons; exact rfl) | exact nIm rfl | exact nSl rfl | exact nIv rfl | exact nRow rfl | exact nNil rfl | exact nPtr rfl | exact nBsh rfl | exact nBsl rfl | exact nAny rfl | exact nIIm rfl | exact nISl rfl | exact rfl))) | (apply s_addI; exact rfl; exact rfl; exact rfl; (first | omega | decide | (dsimp only; omega)); (first | omega | decide | (dsimp only; omega))) | (apply s_append; exact rfl; exact rfl; exact rfl; exact rfl; (focus repeat' (first | exact len_nil | apply len_app | (refine len_map (fun x => rfl)) | (refine len_cons rfl ?_) | exact len_chunks rfl | assumption)); (focus repeat' (first | exact len_nil | apply len_app | (refine len_map (fun x => rfl)) | (refine len_cons rfl ?_) | exact len_chunks rfl | assumption)); (first | (simp [maxLen, chunks_length]; done) | (simp [maxLen, chunks_length]; omega)); (first | (simp [maxLen, chunks_length]; done) | (simp [maxLen, chunks_length]; omega)); exact rfl; exact rfl)) | (refine c_seq ?_) | (refine L.block ?_) | (refine s_region ?_) | (refine L.thenN ?_) | (refine L.inN ?_) | (refine L.skip ?_) | (apply c_condT; exact rfl; (first | exact rfl | assumption))))
      rw [hq, if_pos rfl] at hst
      refine L.only [14, 13, 12, 7, 0, 1, 2] ?_
      refine L.retok 7 25 7 rfl rfl rfl rfl ?_
      refine hK _ (i + 1) trivial (by omega) (Wk.mk' (by intro id h; cases h) (.cons rfl (Sub.refl _) (.cons rfl (Sub.refl _) (.cons rfl (Sub.refl _) (.cons rfl (Sub.of_eq (congrArg (AV.row 7) ?_)) (.cons rfl (Sub.refl _) (.cons rfl (Sub.refl _) (.cons rfl (Sub.refl _) .nil))))))) .nil (.cons rfl .nil))
      rw [hst]; simp [chunks, Pr.c]
set_option maxRecDepth 100000 in
set_option maxHeartbeats 4000000 in
theorem samePairs_any (l : List Pr) (hl : l.length ≤ 225000000000000) :
    CallA Tryd.prog 37 [.iv (.sl (l.map Pr.c)), .iv (.sl (l.map Pr.c))] [] [] [] (aB true) := by
  refine CallA.intro _ Tryd.func37 rfl Tryd.ntmps37 rfl (fun w0 E0 => ?_)
  have e1 : (((l.map Pr.c).length : Int) != ((l.map Pr.c).length : Int)) = false := by simp
  (repeat' (first | (refine LW.is ?_; first | (refine s_nil ?_) | (apply s_mvIv; exact rfl; exact rfl) | (apply s_asIv; exact rfl; exact rfl) | (apply s_lenSl; exact rfl; exact rfl) | (apply s_neqI; exact rfl; exact rfl; exact rfl)) | (refine c_seq ?_) | (refine L.block ?_) | (refine s_region ?_) | (refine L.thenN ?_) | (refine L.skip ?_) | (apply c_condF; exact rfl; (first | exact rfl | assumption))))
  refine L.loopP (ι := Nat) (fun i => ⟨[(13, aI (i : Int)), (12, aI ((l.map Pr.c).length : Int)), (0, .iv (.sl (l.map Pr.c))), (1, .iv (.sl (l.map Pr.c)))], [], []⟩) (fun i => l.length - i) (fun i => True) (i0 := 0) ?_ trivial ?_
  · (refine Wk.mk' (by intro id h; cases h) ?_ ?_ ?_ <;> repeat' (first | exact WkF.nil | exact WkB.nil | exact WkT.nil | (refine WkF.cons rfl (Sub.refl _) ?_) | (refine WkB.cons rfl rfl (Subs.refl _) ?_) | (refine WkT.cons rfl ?_)))
  intro i _ K hK
  cases hx : l[i]? with
  | none =>
    have hlt := ltF (l := l.map Pr.c) (getFN hx)
    (repeat' (first | (refine LW.is ?_; first | (refine s_nil ?_) | (apply s_asIv; exact rfl; exact rfl) | (apply s_lssI; exact rfl; exact rfl; exact rfl)) | (refine c_seq ?_) | (refine s_region ?_) | (refine L.thenN ?_) | (refine L.thenE ?_) | (refine L.inE ?_) | (refine L.ret ?_) | (refine L.exit ?_) | (apply c_condF; exact rfl; (first | exact rfl | assumption))))
    all_goals (first | (apply L.ends1; exact rfl; exact rfl; exact rfl) | (apply L.ends2; exact rfl; exact rfl; exact rfl) | (apply L.ends3; exact rfl; exact rfl; exact rfl) | (apply L.ends1A; exact rfl; exact rfl; exact rfl) | (apply L.ends2A; exact rfl; exact rfl; exact rfl))
    all_goals rfl
  | some x =>
    have hlt := ltT (l := l.map Pr.c) (getF (f := Pr.c) hx)
    have hlt' := ltN hx
    have g1 : (l.map Pr.c)[((i : Nat) : Int).toNat]? = some [S x.1, S x.2] := by rw [Int.toNat_natCast, List.getElem?_map, hx]; rfl
    have eq1 : eqVs [.iv (S x.1), .iv (S x.2)] [.iv (S x.1), .iv (S x.2)] = some true := by simp [eqVs, eqV]
    (repeat' (first | (refine LW.is ?_; first | (refine s_nil ?_) | (apply s_mvIv; exact rfl; exact rfl) | (apply s_asIv; exact rfl; exact rfl) | (apply s_lssI; exact rfl; exact rfl; exact rfl) | (apply s_addI; exact rfl; exact rfl; exact rfl; (first | omega | decide | (dsimp only; omega)); (first | omega | decide | (dsimp only; omega)))) | (refine DR.is ?_; first | ((apply d_indexA; exact rfl; exact rfl; exact rfl; omega; exact g1; exact rfl)) | ((apply d_neqAgg; exact rfl; exact rfl; exact rfl; exact rfl; exact eq1)) | (apply d_nil; kernel_rfl) | (apply d_mvIv; exact rfl; exact rfl) | (apply d_loadAE; exact rfl; exact rfl; (focus repeat' (first | exact nl_nil rfl | (apply nl_cons; exact rfl) | exact nIm rfl | exact nSl rfl | exact nIv rfl | exact nRow rfl | exact nNil rfl | exact nPtr rfl | exact nBsh rfl | exact nBsl rfl | exact nAny rfl | exact nIIm rfl | exact nISl rfl | exact rfl)); exact rfl)) | (refine c_seq ?_) | (refine L.block ?_) | (refine s_region ?_) | (refine d_region ?_) | (refine L.thenN ?_) | (refine L.inN ?_) | (refine L.skip ?_) | (apply c_condT; exact rfl; (first | exact rfl | assumption)) | (apply c_condF; exact rfl; (first | exact rfl | assumption))))
    refine hK _ (i + 1) trivial (by omega) ?_
    (refine Wk.mk' (by intro id h; cases h) ?_ ?_ ?_ <;> repeat' (first | exact WkF.nil | exact WkB.nil | exact WkT.nil | (refine WkF.cons rfl (Sub.refl _) ?_) | (refine WkB.cons rfl rfl (Subs.refl _) ?_) | (refine WkT.cons rfl ?_)))
end Go.Proofs.YthkobnpogigkiaaDoor
/- Trees, the document's: what FlatOf, pages and sameTree compute. Conditions: how much there is of what comes in. -/
namespace Go.Proofs.YthkobnpogigkiaaDoor
open Go.Abs
attribute [local irreducible] L Code.wp bodyPost Exit.then Exit.inBlock
set_option linter.unusedVariables false
set_option linter.unusedSimpArgs false
theorem last_key {l : List Pr} {x : Pr} : ((l ++ [x]).getLast?).map Prod.fst = some x.1 := by simp
set_option maxRecDepth 100000 in
set_option maxHeartbeats 4000000 in
theorem flatOf_any (ps : List Pg) (hl : ps.length * 128 ≤ 225000000000000) :
    CallA Tryd.prog 36 [.agg [.iv (.sl (ps.map Pg.c))]] [] [] [] (.tup [.iv (.sl (if goodTree ps then (flatP ps).map Pr.c else [])), .iv (B (goodTree ps))]) := by
  refine CallA.intro _ Tryd.func36 rfl Tryd.ntmps36 rfl (fun w0 E0 => ?_)
  (repeat' (first | (refine LW.is ?_; first | (refine s_nil ?_) | (apply s_mvIv; exact rfl; exact rfl) | (apply s_asIv; exact rfl; exact rfl) | (apply s_asNil; exact rfl; exact rfl) | (apply s_fieldP; exact rfl; exact rfl; exact rfl) | (apply s_load1P; exact rfl; exact rfl; exact rfl; (apply n_some; exact rfl; (first | exact nIm rfl | exact nSl rfl | exact nIv rfl | exact nRow rfl | exact nNil rfl | exact nPtr rfl | exact nBsh rfl | exact nBsl rfl | exact nAny rfl | exact rfl))) | (apply s_lenSl; exact rfl; exact rfl) | (apply s_box; exact rfl; exact rfl; exact rfl; (focus repeat' (first | exact nl_nil rfl | (apply nl_cons; exact rfl) | exact nIm rfl | exact nSl rfl | exact nIv rfl | exact nRow rfl | exact nNil rfl | exact nPtr rfl | exact nBsh rfl | exact nBsl rfl | exact nAny rfl | exact nIIm rfl | exact nISl rfl | exact rfl)); exact rfl; exact rfl)) | (refine c_seq ?_) | (refine L.block ?_) | (refine s_region ?_) | (refine L.thenN ?_)))
  refine L.adopt 4 (s := 4) (t := 77) (k := 2) rfl rfl rfl ?_
  refine L.loopP (ι := Nat × List Pr) (fun i => ⟨[(11, aI (i.1 : Int)), (10, aI ((ps.map Pg.c).length : Int)), (9, .iv (.sl (ps.map Pg.c))), (4, .row 4 (i.2.map Pr.c))], [], [(4, ⟨77, 2⟩)]⟩) (fun i => ps.length - i.1)
    (fun i => i.2 = flatP (ps.take i.1) ∧ i.2.length ≤ 4 * i.1 ∧ goodTree ps = goodT (i.2.getLast?.map Prod.fst) (ps.drop i.1)) (i0 := (0, [])) ?_ ⟨rfl, by simp, rfl⟩ ?_
  · (refine Wk.mk' (by intro id h; cases h) ?_ ?_ ?_ <;> repeat' (first | exact WkF.nil | exact WkB.nil | exact WkT.nil | (refine WkF.cons rfl (Sub.refl _) ?_) | (refine WkB.cons rfl rfl (Subs.refl _) ?_) | (refine WkT.cons rfl ?_)))
  rintro ⟨i, acc⟩ ⟨h1, h2, h3⟩ K hK
  dsimp only at h1 h2 h3 ⊢
  cases hx : ps[i]? with
  | none =>
    have hlt := ltF (l := ps.map Pg.c) (getFN hx)
    have hg : goodTree ps = true := by rw [h3, dropN hx]; (first | rfl | (cases acc.getLast? <;> rfl))
    rw [take_all hx] at h1
    rw [hg, if_pos rfl]
    (repeat' (first | (refine LW.is ?_; first | (refine s_nil ?_) | (apply s_mvRow; exact rfl; exact rfl) | (apply s_asIv; exact rfl; exact rfl) | (apply s_asRow; exact rfl; exact rfl) | (apply s_lssI; exact rfl; exact rfl; exact rfl)) | (refine c_seq ?_) | (refine s_region ?_) | (refine L.thenN ?_) | (refine L.thenE ?_) | (refine L.inE ?_) | (refine L.ret ?_) | (refine L.exit ?_) | (apply c_condF; exact rfl; (first | exact rfl | assumption))))
    all_goals (first | (apply L.ends1; exact rfl; exact rfl; exact rfl) | (apply L.ends2; exact rfl; exact rfl; exact rfl) | (apply L.ends3; exact rfl; exact rfl; exact rfl) | (apply L.ends1A; exact rfl; exact rfl; exact rfl) | (apply L.ends2A; exact rfl; exact rfl; exact rfl))
    rw [h1]
  | some p =>
    have hlt := ltT (l := ps.map Pg.c) (getF (f := Pg.c) hx)
    have hlt' := ltN hx
    obtain ⟨ks, vs⟩ := p
    have g1 : (ps.map Pg.c)[((i : Nat) : Int).toNat]? = some [.sl (ks.map Str.c), .sl (vs.map Str.c)] := by rw [Int.toNat_natCast, List.getElem?_map, hx]; rfl
    have hd := dropC hx
    rw [hd, goodT_cons] at h3
    dsimp only at h3
    have hlk : (ks.map Str.c).length = ks.length := List.length_map _
    have hlv : (vs.map Str.c).length = vs.length := List.length_map _
    by_cases hc : 1 ≤ ks.length ∧ ks.length ≤ 4 ∧ vs.length = ks.length
    · obtain ⟨c1, c2, c3⟩ := hc
      have b1 : ((((ks.map Str.c).length : Nat) : Int) == 0) = false := by simp; intro e; rw [e] at c1; simp at c1
      have b2 : decide ((4 : Int) < (((ks.map Str.c).length : Nat) : Int)) = false := by simp; omega
      have b3 : ((((ks.map Str.c).length : Nat) : Int) != (((vs.map Str.c).length : Nat) : Int)) = false := by rw [hlk, hlv, c3]; simp
      have h3 : goodTree ps = (risesM (acc.getLast?.map Prod.fst) ks && goodT (lastM (acc.getLast?.map Prod.fst) ks) (ps.drop (i + 1))) := by rw [h3]; simp [c1, c2, c3]
      have hst : flatP (ps.take (i + 1)) = flatP (ps.take i) ++ ks.zip vs := by
        rw [List.take_add_one, hx, flatP_append]; simp [flatP, Pg.prs]
      (repeat' (first | (refine LW.is ?_; first | ((apply s_indexA; exact rfl; exact rfl; exact rfl; omega; exact g1; exact rfl)) | (refine s_nil ?_) | (apply s_mvIv; exact rfl; exact rfl) | (apply s_fieldP; exact rfl; exact rfl; exact rfl) | (apply s_load1P; exact rfl; exact rfl; exact rfl; (apply n_some; exact rfl; (first | exact nIm rfl | exact nSl rfl | exact nIv rfl | exact nRow rfl | exact nNil rfl | exact nPtr rfl | exact nBsh rfl | exact nBsl rfl | exact nAny rfl | exact rfl))) | (apply s_loadAE; exact rfl; exact rfl; (focus repeat' (first | exact nl_nil rfl | (apply nl_cons; exact rfl) | exact nIm rfl | exact nSl rfl | exact nIv rfl | exact nRow rfl | exact nNil rfl | exact nPtr rfl | exact nBsh rfl | exact nBsl rfl | exact nAny rfl | exact nIIm rfl | exact nISl rfl | exact rfl)); exact rfl) | (apply s_lenSl; exact rfl; exact rfl) | (apply s_eqlI; exact rfl; exact rfl; exact rfl) | (apply s_neqI; exact rfl; exact rfl; exact rfl) | (apply s_lssI; exact rfl; exact rfl; exact rfl) | (apply s_gtrI; exact rfl; exact rfl; exact rfl) | (apply s_alloc; exact rfl; exact rfl; (focus repeat' (first | exact nl_nil rfl | (apply nl_cons; exact rfl) | exact nIm rfl | exact nSl rfl | exact nIv rfl | exact nRow rfl | exact nNil rfl | exact nPtr rfl | exact nBsh rfl | exact nBsl rfl | exact nAny rfl | exact nIIm rfl | exact nISl rfl | exact rfl)); exact rfl; exact rfl) | (apply s_store; exact rfl; exact rfl; exact rfl; exact rfl; exact rfl; exact rfl; (focus repeat' (first | exact nl_nil rfl | (apply nl_cons; exact rfl) | exact nIm rfl | exact nSl rfl | exact nIv rfl | exact nRow rfl | exact nNil rfl | exact nPtr rfl | exact nBsh rfl | exact nBsl rfl | exact nAny rfl | exact nIIm rfl | exact nISl rfl | exact rfl))) | (apply s_gdo; exact rfl; exact rfl; (first | exact rfl | assumption)) | (apply s_pickFIv; exact rfl; exact rfl; (first | exact rfl | assumption); exact rfl)) | (refine c_seq ?_) | (refine L.block ?_) | (refine s_region ?_) | (refine L.thenN ?_) | (refine L.skip ?_) | (apply c_condT; exact rfl; (first | exact rfl | assumption)) | (apply c_condF; exact rfl; (first | exact rfl | assumption))))
      refine L.loopP (ι := Nat × List Pr) (fun j => ⟨[(11, aI (i : Int)), (10, aI ((ps.map Pg.c).length : Int)), (9, .iv (.sl (ps.map Pg.c))), (37, aI (j.1 : Int)), (36, aI ((ks.map Str.c).length : Int)), (6, .ptr 6 0), (4, .row 4 (j.2.map Pr.c))], [(6, ⟨127, .l [.iv (.sl (ks.map Str.c)), .iv (.sl (vs.map Str.c))]⟩)], [(4, ⟨77, 2⟩)]⟩) (fun j => ks.length - j.1)
        (fun j => j.2 = flatP (ps.take i) ++ (ks.zip vs).take j.1 ∧ j.2.length ≤ 4 * i + j.1 ∧ goodTree ps = (risesM (j.2.getLast?.map Prod.fst) (ks.drop j.1) && goodT (lastM (j.2.getLast?.map Prod.fst) (ks.drop j.1)) (ps.drop (i + 1)))) (i0 := (0, acc)) ?_ ⟨by simp [h1], by simpa using h2, by simpa using h3⟩ ?_
      · (refine Wk.mk' (by intro id h; cases h) ?_ ?_ ?_ <;> repeat' (first | exact WkF.nil | exact WkB.nil | exact WkT.nil | (refine WkF.cons rfl (Sub.refl _) ?_) | (refine WkB.cons rfl rfl (Subs.refl _) ?_) | (refine WkT.cons rfl ?_)))
      have hfl : (flatP (ps.take i)).length ≤ 4 * i := by rw [← h1]; exact h2
      clear h1 h2 h3
      rintro ⟨j, acc⟩ ⟨h1, h2, h3⟩ K2 hK2
      dsimp only at h1 h2 h3 ⊢
      cases hy : ks[j]? with
      | none =>
        have hlt2 := ltF (l := ks.map Str.c) (getFN hy)
        have hj := List.getElem?_eq_none_iff.1 hy
        rw [dropN hy] at h3
        have htz : (ks.zip vs).take j = ks.zip vs := List.take_of_length_le (by simp; omega)
        rw [htz, ← hst] at h1
        have h4 : acc.length ≤ 4 * (i + 1) := by
          rw [h1]
          have := flatP_len (ps := ps.take (i + 1))
          have hz := congrArg List.length hst
          have hz2 := congrArg List.length h1
          simp only [List.length_append, List.length_zip] at hz
          omega
        (repeat' (first | (refine LW.is ?_; first | (refine s_nil ?_) | (apply s_mvIv; exact rfl; exact rfl) | (apply s_lssI; exact rfl; exact rfl; exact rfl) | (apply s_addI; exact rfl; exact rfl; exact rfl; (first | omega | decide | (dsimp only; omega)); (first | omega | decide | (dsimp only; omega)))) | (refine c_seq ?_) | (refine s_region ?_) | (refine L.thenN ?_) | (refine L.thenE ?_) | (refine L.inN ?_) | (refine L.inE ?_) | (refine L.exit ?_) | (apply c_condF; exact rfl; (first | exact rfl | assumption))))
        refine hK _ (i + 1, acc) ⟨h1, h4, by rw [h3]; simp [risesM, lastM]⟩ (by dsimp only; omega) ?_
        (refine Wk.mk' (by intro id h; cases h) ?_ ?_ ?_ <;> repeat' (first | exact WkF.nil | exact WkB.nil | exact WkT.nil | (refine WkF.cons rfl (Sub.refl _) ?_) | (refine WkB.cons rfl rfl (Subs.refl _) ?_) | (refine WkT.cons rfl ?_)))
      | some s =>
        have hlt2 := ltT (l := ks.map Str.c) (getF (f := Str.c) hy)
        have hlt2' := ltN hy
        obtain ⟨u, hu⟩ : ∃ u, vs[j]? = some u := ⟨_, List.getElem?_eq_getElem (by omega)⟩
        have g2 : (ks.map Str.c)[((j : Nat) : Int).toNat]? = some [S s] := by rw [Int.toNat_natCast, List.getElem?_map, hy]; rfl
        have g3 : (vs.map Str.c)[((j : Nat) : Int).toNat]? = some [S u] := by rw [Int.toNat_natCast, List.getElem?_map, hu]; rfl
        rw [dropC hy, rises_step] at h3
        have hz : (ks.zip vs).take (j + 1) = (ks.zip vs).take j ++ [(s, u)] := by
          have : (ks.zip vs)[j]? = some (s, u) := by simp [List.getElem?_zip_eq_some, hy, hu]
          rw [List.take_add_one, this]; rfl
        have hnext : ∀ (h : goodTree ps = (risesM (some s) (ks.drop (j + 1)) && goodT (lastM (some s) (ks.drop (j + 1))) (ps.drop (i + 1)))), (acc ++ [(s, u)]) = flatP (ps.take i) ++ (ks.zip vs).take (j + 1) ∧ (acc ++ [(s, u)]).length ≤ 4 * i + (j + 1) ∧ goodTree ps = (risesM ((acc ++ [(s, u)]).getLast?.map Prod.fst) (ks.drop (j + 1)) && goodT (lastM ((acc ++ [(s, u)]).getLast?.map Prod.fst) (ks.drop (j + 1))) (ps.drop (i + 1))) := fun h =>
          ⟨by rw [hz, h1]; simp, by simp; omega, by rw [last_key]; exact h⟩
        rcases List.eq_nil_or_concat acc with rfl | ⟨acc, z, rfl⟩
        · have bm : (([] : List Pr).map Pr.c).length + 1 ≤ maxLen := by decide
          have bb : ((([] : List Pr).map Pr.c).length + 1) * 32 ≤ 225000000000000 := by decide
          (repeat' (first | (refine LW.is ?_; first | (refine s_nil ?_) | (apply s_mvIv; exact rfl; exact rfl) | (apply s_asIv; exact rfl; exact rfl) | (apply s_lssI; exact rfl; exact rfl; exact rfl) | (apply s_addI; exact rfl; exact rfl; exact rfl; (first | omega | decide | (dsimp only; omega)); (first | omega | decide | (dsimp only; omega)))) | (refine DR.is ?_; first | ((apply d_append; exact rfl; exact rfl; exact rfl; exact rfl; (focus repeat' (first | exact len_nil | apply len_app | (refine len_map (fun x => rfl)) | (refine len_cons rfl ?_) | exact len_chunks rfl | assumption)); (focus repeat' (first | exact len_nil | apply len_app | (refine len_map (fun x => rfl)) | (refine len_cons rfl ?_) | exact len_chunks rfl | assumption)); exact bm; exact bb; exact rfl; exact rfl)) | ((apply d_indexA; exact rfl; exact rfl; exact rfl; omega; exact g2; exact rfl)) | ((apply d_indexA; exact rfl; exact rfl; exact rfl; omega; exact g3; exact rfl)) | (apply d_nil; kernel_rfl) | (apply d_mvIv; exact rfl; exact rfl) | (apply d_mvRow; exact rfl; exact rfl) | (apply d_asRow; exact rfl; exact rfl) | (apply d_fieldP; exact rfl; exact rfl; exact rfl) | (apply d_load1P; exact rfl; exact rfl; exact rfl; (apply n_some; exact rfl; (first | exact nIm rfl | exact nSl rfl | exact nIv rfl | exact nRow rfl | exact nNil rfl | exact nPtr rfl | exact nBsh rfl | exact nBsl rfl | exact nAny rfl | exact rfl))) | (apply d_load1E; exact rfl; exact rfl; exact rfl) | (apply d_lenSl; exact rfl; exact rfl) | (apply d_gtrI; exact rfl; exact rfl; exact rfl) | (apply d_build; exact rfl; exact rfl; (apply n_some; exact rfl; (focus repeat' (first | exact nl_nil rfl | (apply nl_cons; exact rfl) | exact nIm rfl | exact nSl rfl | exact nIv rfl | exact nRow rfl | exact nNil rfl | exact nPtr rfl | exact nBsh rfl | exact nBsl rfl | exact nAny rfl | exact nIIm rfl | exact nISl rfl | exact rfl)))) | (apply d_bslice; exact rfl; exact rfl; exact rfl; exact rfl; exact rfl; (apply n_some; exact rfl; (focus repeat' (first | exact nl_nil rfl | (apply nl_cons; exact rfl) | exact nIm rfl | exact nSl rfl | exact nIv rfl | exact nRow rfl | exact nNil rfl | exact nPtr rfl | exact nBsh rfl | exact nBsl rfl | exact nAny rfl | exact nIIm rfl | exact nISl rfl | exact rfl))); (apply n_some; exact rfl; (focus repeat' (first | exact nl_nil rfl | (apply nl_cons; exact rfl) | exact nIm rfl | exact nSl rfl | exact nIv rfl | exact nRow rfl | exact nNil rfl | exact nPtr rfl | exact nBsh rfl | exact nBsl rfl | exact nAny rfl | exact nIIm rfl | exact nISl rfl | exact rfl))); exact rfl; (focus repeat' (first | exact nl_nil rfl | (apply nl_cons; exact rfl) | exact nIm rfl | exact nSl rfl | exact nIv rfl | exact nRow rfl | exact nNil rfl | exact nPtr rfl | exact nBsh rfl | exact nBsl rfl | exact nAny rfl | exact nIIm rfl | exact nISl rfl | exact rfl)); exact rfl) | (apply d_gskipT; exact rfl; exact rfl; exact rfl; (first | exact rfl | assumption)) | (apply d_pickFIv; exact rfl; exact rfl; (first | exact rfl | assumption); exact rfl)) | (refine c_seq ?_) | (refine L.block ?_) | (refine s_region ?_) | (refine d_region ?_) | (refine L.thenN ?_) | (refine L.inN ?_) | (refine L.skip ?_) | (apply c_condT; exact rfl; (first | exact rfl | assumption)) | (apply c_condF; exact rfl; (first | exact rfl | assumption))))
          refine L.only [11, 10, 9, 37, 36, 6, 4] ?_
          refine L.retok 4 71 4 rfl rfl rfl rfl ?_
          refine hK2 _ (j + 1, [] ++ [(s, u)]) (hnext (by simpa [lastM] using h3)) (by dsimp only; omega) ?_
          (refine Wk.mk' (by intro id h; cases h) ?_ ?_ ?_ <;> repeat' (first | exact WkF.nil | exact WkB.nil | exact WkT.nil | (refine WkF.cons rfl (Sub.refl _) ?_) | (refine WkB.cons rfl rfl (Subs.refl _) ?_) | (refine WkT.cons rfl ?_)))
        · rw [List.concat_eq_append] at h1 h2 h3 hnext ⊢
          rw [last_key] at h3
          have hal : ((acc ++ [z]).map Pr.c).length = acc.length + 1 := by simp
          have p0 : decide ((0 : Int) < ((((acc ++ [z]).map Pr.c).length : Nat) : Int)) = true := by rw [hal]; (first | (simp; done) | (simp; omega))
          have g4 : ((acc ++ [z]).map Pr.c)[(((((acc ++ [z]).map Pr.c).length : Nat) : Int) - 1).toNat]? = some [S z.1, S z.2] := by
            rw [hal, show (((acc.length + 1 : Nat) : Int) - 1).toNat = acc.length by omega]; simp [Pr.c]
          have hge : (!(Op.bytesLess z.1 s)) = !decide (z.1 < s) := by rw [ltS]
          simp only [List.length_append, List.length_singleton] at h2
          cases hq : decide (z.1 < s) with
          | false =>
            rw [hq] at hge
            dsimp only at h3
            rw [hq] at h3
            have hg : goodTree ps = false := by rw [h3]; rfl
            rw [hg, if_neg (by simp)]
            (repeat' (first | (refine LW.is ?_; first | (refine s_nil ?_) | (apply s_mvIv; exact rfl; exact rfl) | (apply s_asIv; exact rfl; exact rfl) | (apply s_asNil; exact rfl; exact rfl) | (apply s_lssI; exact rfl; exact rfl; exact rfl)) | (refine DR.is ?_; first | ((apply d_indexA; exact rfl; exact rfl; exact rfl; omega; exact g2; exact rfl)) | ((apply d_indexA; exact rfl; exact rfl; exact rfl; omega; exact g4; exact rfl)) | (apply d_nil; kernel_rfl) | (apply d_mvIv; exact rfl; exact rfl) | (apply d_mvRow; exact rfl; exact rfl) | (apply d_fieldP; exact rfl; exact rfl; exact rfl) | (apply d_fieldE; exact rfl; exact rfl; exact rfl) | (apply d_load1P; exact rfl; exact rfl; exact rfl; (apply n_some; exact rfl; (first | exact nIm rfl | exact nSl rfl | exact nIv rfl | exact nRow rfl | exact nNil rfl | exact nPtr rfl | exact nBsh rfl | exact nBsl rfl | exact nAny rfl | exact rfl))) | (apply d_load1E; exact rfl; exact rfl; exact rfl) | (apply d_lenSl; exact rfl; exact rfl) | (apply d_gtrI; exact rfl; exact rfl; exact rfl) | (apply d_geqS; exact rfl; exact rfl; exact rfl) | (apply d_subI; exact rfl; exact rfl; exact rfl; (first | omega | decide | (dsimp only; omega)); (first | omega | decide | (dsimp only; omega))) | (apply d_gdo; exact rfl; exact rfl; (first | exact rfl | assumption)) | (apply d_pickTIv; exact rfl; exact rfl; (first | exact rfl | assumption); exact rfl)) | (refine c_seq ?_) | (refine L.block ?_) | (refine s_region ?_) | (refine d_region ?_) | (refine L.thenN ?_) | (refine L.thenR ?_) | (refine L.inR ?_) | (refine L.ret ?_) | (refine L.skip ?_) | (apply c_condT; exact rfl; (first | exact rfl | assumption))))
            all_goals (first | (apply L.ends1; exact rfl; exact rfl; exact rfl) | (apply L.ends2; exact rfl; exact rfl; exact rfl) | (apply L.ends3; exact rfl; exact rfl; exact rfl) | (apply L.ends1A; exact rfl; exact rfl; exact rfl) | (apply L.ends2A; exact rfl; exact rfl; exact rfl))
            all_goals rfl
          | true =>
            rw [hq] at hge
            dsimp only at h3
            rw [hq, Bool.true_and] at h3
            have bm : ((acc ++ [z]).map Pr.c).length + 1 ≤ maxLen := by rw [maxL]; omega
            have bb : (((acc ++ [z]).map Pr.c).length + 1) * 32 ≤ 225000000000000 := by omega
            (repeat' (first | (refine LW.is ?_; first | (refine s_nil ?_) | (apply s_mvIv; exact rfl; exact rfl) | (apply s_asIv; exact rfl; exact rfl) | (apply s_lssI; exact rfl; exact rfl; exact rfl) | (apply s_addI; exact rfl; exact rfl; exact rfl; (first | omega | decide | (dsimp only; omega)); (first | omega | decide | (dsimp only; omega)))) | (refine DR.is ?_; first | ((apply d_append; exact rfl; exact rfl; exact rfl; exact rfl; (focus repeat' (first | exact len_nil | apply len_app | (refine len_map (fun x => rfl)) | (refine len_cons rfl ?_) | exact len_chunks rfl | assumption)); (focus repeat' (first | exact len_nil | apply len_app | (refine len_map (fun x => rfl)) | (refine len_cons rfl ?_) | exact len_chunks rfl | assumption)); exact bm; exact bb; exact rfl; exact rfl)) | ((apply d_indexA; exact rfl; exact rfl; exact rfl; omega; exact g2; exact rfl)) | ((apply d_indexA; exact rfl; exact rfl; exact rfl; omega; exact g3; exact rfl)) | ((apply d_indexA; exact rfl; exact rfl; exact rfl; omega; exact g4; exact rfl)) | (apply d_nil; kernel_rfl) | (apply d_mvIv; exact rfl; exact rfl) | (apply d_mvRow; exact rfl; exact rfl) | (apply d_asRow; exact rfl; exact rfl) | (apply d_fieldP; exact rfl; exact rfl; exact rfl) | (apply d_fieldE; exact rfl; exact rfl; exact rfl) | (apply d_load1P; exact rfl; exact rfl; exact rfl; (apply n_some; exact rfl; (first | exact nIm rfl | exact nSl rfl | exact nIv rfl | exact nRow rfl | exact nNil rfl | exact nPtr rfl | exact nBsh rfl | exact nBsl rfl | exact nAny rfl | exact rfl))) | (apply d_load1E; exact rfl; exact rfl; exact rfl) | (apply d_lenSl; exact rfl; exact rfl) | (apply d_gtrI; exact rfl; exact rfl; exact rfl) | (apply d_geqS; exact rfl; exact rfl; exact rfl) | (apply d_build; exact rfl; exact rfl; (apply n_some; exact rfl; (focus repeat' (first | exact nl_nil rfl | (apply nl_cons; exact rfl) | exact nIm rfl | exact nSl rfl | exact nIv rfl | exact nRow rfl | exact nNil rfl | exact nPtr rfl | exact nBsh rfl | exact nBsl rfl | exact nAny rfl | exact nIIm rfl | exact nISl rfl | exact rfl)))) | (apply d_bslice; exact rfl; exact rfl; exact rfl; exact rfl; exact rfl; (apply n_some; exact rfl; (focus repeat' (first | exact nl_nil rfl | (apply nl_cons; exact rfl) | exact nIm rfl | exact nSl rfl | exact nIv rfl | exact nRow rfl | exact nNil rfl | exact nPtr rfl | exact nBsh rfl | exact nBsl rfl | exact nAny rfl | exact nIIm rfl | exact nISl rfl | exact rfl))); (apply n_some; exact rfl; (focus repeat' (first | exact nl_nil rfl | (apply nl_cons; exact rfl) | exact nIm rfl | exact nSl rfl | exact nIv rfl | exact nRow rfl | exact nNil rfl | exact nPtr rfl | exact nBsh rfl | exact nBsl rfl | exact nAny rfl | exact nIIm rfl | exact nISl rfl | exact rfl))); exact rfl; (focus repeat' (first | exact nl_nil rfl | (apply nl_cons; exact rfl) | exact nIm rfl | exact nSl rfl | exact nIv rfl | exact nRow rfl | exact nNil rfl | exact nPtr rfl | exact nBsh rfl | exact nBsl rfl | exact nAny rfl | exact nIIm rfl | exact nISl rfl | exact rfl)); exact rfl) | (apply d_subI; exact rfl; exact rfl; exact rfl; (first | omega | decide | (dsimp only; omega)); (first | omega | decide | (dsimp only; omega))) | (apply d_gdo; exact rfl; exact rfl; (first | exact rfl | assumption)) | (apply d_pickTIv; exact rfl; exact rfl; (first | exact rfl | assumption); exact rfl)) | (refine c_seq ?_) | (refine L.block ?_) | (refine s_region ?_) | (refine d_region ?_) | (refine L.thenN ?_) | (refine L.inN ?_) | (refine L.skip ?_) | (apply c_condT; exact rfl; (first | exact rfl | assumption)) | (apply c_condF; exact rfl; (first | exact rfl | assumption))))
            refine L.only [11, 10, 9, 37, 36, 6, 4] ?_
            refine L.retok 4 71 4 rfl rfl rfl rfl ?_
            refine hK2 _ (j + 1, (acc ++ [z]) ++ [(s, u)]) (hnext (by simpa [lastM] using h3)) (by dsimp only; omega) (Wk.mk' (by intro id h; cases h) (.cons rfl (Sub.refl _) (.cons rfl (Sub.refl _) (.cons rfl (Sub.refl _) (.cons rfl (Sub.refl _) (.cons rfl (Sub.refl _) (.cons rfl (Sub.refl _) (.cons rfl (Sub.of_eq (congrArg (AV.row 4) ?_)) .nil))))))) (.cons rfl rfl (Subs.refl _) .nil) (.cons rfl .nil))
            simp [chunks, Pr.c]
    · have hg : goodTree ps = false := by
        rw [h3]
        by_cases c1 : 1 ≤ ks.length
        · by_cases c2 : ks.length ≤ 4
          · have c3 : ¬ vs.length = ks.length := fun c3 => hc ⟨c1, c2, c3⟩
            simp [c3]
          · simp [c2]
        · have c1 : ks = [] := List.length_eq_zero_iff.1 (by omega)
          simp [c1]
      rw [hg, if_neg (by simp)]
      have hc1 : ((((ks.map Str.c).length : Nat) : Int) == 0) = false → decide ((4 : Int) < (((ks.map Str.c).length : Nat) : Int)) = false → ((((ks.map Str.c).length : Nat) : Int) != (((vs.map Str.c).length : Nat) : Int)) = true := fun a b => by
        simp at a b ⊢
        intro e
        have : ks.length ≠ 0 := fun e => a (List.length_eq_zero_iff.1 e)
        exact hc ⟨by omega, by omega, by omega⟩
      cases a1 : ((((ks.map Str.c).length : Nat) : Int) == 0) with
      | true =>
        (repeat' (first | (refine LW.is ?_; first | ((apply s_indexA; exact rfl; exact rfl; exact rfl; omega; exact g1; exact rfl)) | (refine s_nil ?_) | (apply s_mvIv; exact rfl; exact rfl) | (apply s_asIv; exact rfl; exact rfl) | (apply s_asNil; exact rfl; exact rfl) | (apply s_fieldP; exact rfl; exact rfl; exact rfl) | (apply s_load1P; exact rfl; exact rfl; exact rfl; (apply n_some; exact rfl; (first | exact nIm rfl | exact nSl rfl | exact nIv rfl | exact nRow rfl | exact nNil rfl | exact nPtr rfl | exact nBsh rfl | exact nBsl rfl | exact nAny rfl | exact rfl))) | (apply s_loadAE; exact rfl; exact rfl; (focus repeat' (first | exact nl_nil rfl | (apply nl_cons; exact rfl) | exact nIm rfl | exact nSl rfl | exact nIv rfl | exact nRow rfl | exact nNil rfl | exact nPtr rfl | exact nBsh rfl | exact nBsl rfl | exact nAny rfl | exact nIIm rfl | exact nISl rfl | exact rfl)); exact rfl) | (apply s_lenSl; exact rfl; exact rfl) | (apply s_eqlI; exact rfl; exact rfl; exact rfl) | (apply s_lssI; exact rfl; exact rfl; exact rfl) | (apply s_alloc; exact rfl; exact rfl; (focus repeat' (first | exact nl_nil rfl | (apply nl_cons; exact rfl) | exact nIm rfl | exact nSl rfl | exact nIv rfl | exact nRow rfl | exact nNil rfl | exact nPtr rfl | exact nBsh rfl | exact nBsl rfl | exact nAny rfl | exact nIIm rfl | exact nISl rfl | exact rfl)); exact rfl; exact rfl) | (apply s_store; exact rfl; exact rfl; exact rfl; exact rfl; exact rfl; exact rfl; (focus repeat' (first | exact nl_nil rfl | (apply nl_cons; exact rfl) | exact nIm rfl | exact nSl rfl | exact nIv rfl | exact nRow rfl | exact nNil rfl | exact nPtr rfl | exact nBsh rfl | exact nBsl rfl | exact nAny rfl | exact nIIm rfl | exact nISl rfl | exact rfl))) | (apply s_gskipF; exact rfl; exact rfl; exact rfl; (first | exact rfl | assumption)) | (apply s_pickTIv; exact rfl; exact rfl; (first | exact rfl | assumption); exact rfl)) | (refine c_seq ?_) | (refine L.block ?_) | (refine s_region ?_) | (refine L.thenN ?_) | (refine L.thenR ?_) | (refine L.inR ?_) | (refine L.ret ?_) | (refine L.skip ?_) | (apply c_condT; exact rfl; (first | exact rfl | assumption))))
        all_goals (first | (apply L.ends1; exact rfl; exact rfl; exact rfl) | (apply L.ends2; exact rfl; exact rfl; exact rfl) | (apply L.ends3; exact rfl; exact rfl; exact rfl) | (apply L.ends1A; exact rfl; exact rfl; exact rfl) | (apply L.ends2A; exact rfl; exact rfl; exact rfl))
        all_goals rfl
      | false =>
        cases a2 : decide ((4 : Int) < (((ks.map Str.c).length : Nat) : Int)) with
        | true =>
          (repeat' (first | (refine LW.is ?_; first | ((apply s_indexA; exact rfl; exact rfl; exact rfl; omega; exact g1; exact rfl)) | (refine s_nil ?_) | (apply s_mvIv; exact rfl; exact rfl) | (apply s_asIv; exact rfl; exact rfl) | (apply s_asNil; exact rfl; exact rfl) | (apply s_fieldP; exact rfl; exact rfl; exact rfl) | (apply s_load1P; exact rfl; exact rfl; exact rfl; (apply n_some; exact rfl; (first | exact nIm rfl | exact nSl rfl | exact nIv rfl | exact nRow rfl | exact nNil rfl | exact nPtr rfl | exact nBsh rfl | exact nBsl rfl | exact nAny rfl | exact rfl))) | (apply s_loadAE; exact rfl; exact rfl; (focus repeat' (first | exact nl_nil rfl | (apply nl_cons; exact rfl) | exact nIm rfl | exact nSl rfl | exact nIv rfl | exact nRow rfl | exact nNil rfl | exact nPtr rfl | exact nBsh rfl | exact nBsl rfl | exact nAny rfl | exact nIIm rfl | exact nISl rfl | exact rfl)); exact rfl) | (apply s_lenSl; exact rfl; exact rfl) | (apply s_eqlI; exact rfl; exact rfl; exact rfl) | (apply s_lssI; exact rfl; exact rfl; exact rfl) | (apply s_gtrI; exact rfl; exact rfl; exact rfl) | (apply s_alloc; exact rfl; exact rfl; (focus repeat' (first | exact nl_nil rfl | (apply nl_cons; exact rfl) | exact nIm rfl | exact nSl rfl | exact nIv rfl | exact nRow rfl | exact nNil rfl | exact nPtr rfl | exact nBsh rfl | exact nBsl rfl | exact nAny rfl | exact nIIm rfl | exact nISl rfl | exact rfl)); exact rfl; exact rfl) | (apply s_store; exact rfl; exact rfl; exact rfl; exact rfl; exact rfl; exact rfl; (focus repeat' (first | exact nl_nil rfl | (apply nl_cons; exact rfl) | exact nIm rfl | exact nSl rfl | exact nIv rfl | exact nRow rfl | exact nNil rfl | exact nPtr rfl | exact nBsh rfl | exact nBsl rfl | exact nAny rfl | exact nIIm rfl | exact nISl rfl | exact rfl))) | (apply s_gdo; exact rfl; exact rfl; (first | exact rfl | assumption)) | (apply s_gskipF; exact rfl; exact rfl; exact rfl; (first | exact rfl | assumption)) | (apply s_pickTIv; exact rfl; exact rfl; (first | exact rfl | assumption); exact rfl) | (apply s_pickFIv; exact rfl; exact rfl; (first | exact rfl | assumption); exact rfl)) | (refine c_seq ?_) | (refine L.block ?_) | (refine s_region ?_) | (refine L.thenN ?_) | (refine L.thenR ?_) | (refine L.inR ?_) | (refine L.ret ?_) | (refine L.skip ?_) | (apply c_condT; exact rfl; (first | exact rfl | assumption))))
          all_goals (first | (apply L.ends1; exact rfl; exact rfl; exact rfl) | (apply L.ends2; exact rfl; exact rfl; exact rfl) | (apply L.ends3; exact rfl; exact rfl; exact rfl) | (apply L.ends1A; exact rfl; exact rfl; exact rfl) | (apply L.ends2A; exact rfl; exact rfl; exact rfl))
          all_goals rfl
        | false =>
          have a3 := hc1 a1 a2
          (repeat' (first | (refine LW.is ?_; first | ((apply s_indexA; exact rfl; exact rfl; exact rfl; omega; exact g1; exact rfl)) | (refine s_nil ?_) | (apply s_mvIv; exact rfl; exact rfl) | (apply s_asIv; exact rfl; exact rfl) | (apply s_asNil; exact rfl; exact rfl) | (apply s_fieldP; exact rfl; exact rfl; exact rfl) | (apply s_load1P; exact rfl; exact rfl; exact rfl; (apply n_some; exact rfl; (first | exact nIm rfl | exact nSl rfl | exact nIv rfl | exact nRow rfl | exact nNil rfl | exact nPtr rfl | exact nBsh rfl | exact nBsl rfl | exact nAny rfl | exact rfl))) | (apply s_loadAE; exact rfl; exact rfl; (focus repeat' (first | exact nl_nil rfl | (apply nl_cons; exact rfl) | exact nIm rfl | exact nSl rfl | exact nIv rfl | exact nRow rfl | exact nNil rfl | exact nPtr rfl | exact nBsh rfl | exact nBsl rfl | exact nAny rfl | exact nIIm rfl | exact nISl rfl | exact rfl)); exact rfl) | (apply s_lenSl; exact rfl; exact rfl) | (apply s_eqlI; exact rfl; exact rfl; exact rfl) | (apply s_neqI; exact rfl; exact rfl; exact rfl) | (apply s_lssI; exact rfl; exact rfl; exact rfl) | (apply s_gtrI; exact rfl; exact rfl; exact rfl) | (apply s_alloc; exact rfl; exact rfl; (focus repeat' (first | exact nl_nil rfl | (apply nl_cons; exact rfl) | exact nIm rfl | exact nSl rfl | exact nIv rfl | exact nRow rfl | exact nNil rfl | exact nPtr rfl | exact nBsh rfl | exact nBsl rfl | exact nAny rfl | exact nIIm rfl | exact nISl rfl | exact rfl)); exact rfl; exact rfl) | (apply s_store; exact rfl; exact rfl; exact rfl; exact rfl; exact rfl; exact rfl; (focus repeat' (first | exact nl_nil rfl | (apply nl_cons; exact rfl) | exact nIm rfl | exact nSl rfl | exact nIv rfl | exact nRow rfl | exact nNil rfl | exact nPtr rfl | exact nBsh rfl | exact nBsl rfl | exact nAny rfl | exact nIIm rfl | exact nISl rfl | exact rfl))) | (apply s_gdo; exact rfl; exact rfl; (first | exact rfl | assumption)) | (apply s_pickFIv; exact rfl; exact rfl; (first | exact rfl | assumption); exact rfl)) | (refine c_seq ?_) | (refine L.block ?_) | (refine s_region ?_) | (refine L.thenN ?_) | (refine L.thenR ?_) | (refine L.inR ?_) | (refine L.ret ?_) | (refine L.skip ?_) | (apply c_condT; exact rfl; (first | exact rfl | assumption))))
          all_goals (first | (apply L.ends1; exact rfl; exact rfl; exact rfl) | (apply L.ends2; exact rfl; exact rfl; exact rfl) | (apply L.ends3; exact rfl; exact rfl; exact rfl) | (apply L.ends1A; exact rfl; exact rfl; exact rfl) | (apply L.ends2A; exact rfl; exact rfl; exact rfl))
          all_goals rfl
end Go.Proofs.YthkobnpogigkiaaDoor
