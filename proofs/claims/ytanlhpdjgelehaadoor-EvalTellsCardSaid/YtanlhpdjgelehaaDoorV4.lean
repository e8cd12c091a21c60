/- Values: what Values computes, of texts that are not longer than a slice may be. Conditions: that bound. -/
import Derived.Test.YtanlhpdjgelehaaDoorV3
namespace Go.Proofs.YtanlhpdjgelehaaDoor
open Go.Abs
attribute [local irreducible] L Code.wp bodyPost Exit.then Exit.inBlock
set_option linter.unusedVariables false
set_option linter.unusedSimpArgs false

def dec4 (s : List UInt8) : Int := (s.getD 0 0).toNat * 16777216 + (s.getD 1 0).toNat * 65536 + (s.getD 2 0).toNat * 256 + (s.getD 3 0).toNat - 1073741824
def upto0 (s : List UInt8) : List UInt8 := s.takeWhile (fun b => b != 0)
def valOne : List UInt8 → Option (Val × List UInt8)
  | [] => none
  | b :: s =>
    if b.toNat = 1 then some (⟨0, 0, []⟩, s)
    else if b.toNat = 2 then if s.length < 4 then none else some (⟨1, dec4 s, []⟩, s.drop 4)
    else if b.toNat = 3 then if (upto0 s).length = s.length then none else some (⟨2, 0, upto0 s⟩, s.drop ((upto0 s).length + 1))
    else none
theorem valOne_lt {s r : List UInt8} {v : Val} (h : valOne s = some (v, r)) : r.length < s.length := by
  cases s with
  | nil => cases h
  | cons b s =>
    simp only [valOne] at h
    split at h
    · simp at h; simp [h.2]
    · split at h
      · split at h
        · cases h
        · simp at h; rw [← h.2]; simp; omega
      · split at h
        · split at h
          · cases h
          · simp at h; rw [← h.2]; simp; omega
        · cases h
def valsM (s : List UInt8) : Option (List Val) :=
  if s = [] then some [] else
  match h : valOne s with
  | none => none
  | some (v, r) => if goodM v then (valsM r).map (v :: ·) else none
 termination_by s.length
 decreasing_by exact valOne_lt h
theorem valsM_nil : valsM [] = some [] := by rw [valsM]; rfl
theorem valsM_none {s : List UInt8} (hs : s ≠ []) (h : valOne s = none) : valsM s = none := by
  rw [valsM, if_neg hs]; split
  · rfl
  · rename_i v r h'; rw [h] at h'; cases h'
theorem valsM_some {s r : List UInt8} {v : Val} (h : valOne s = some (v, r)) : valsM s = if goodM v then (valsM r).map (v :: ·) else none := by
  have hs : s ≠ [] := fun e => by subst e; cases h
  rw [valsM, if_neg hs]; split
  · rename_i h'; rw [h] at h'; cases h'
  · rename_i v' r' h'; rw [h] at h'; cases h'; rfl

def valsR (s : List UInt8) : List Val × Int := match valsM s with | some l => (l, 0) | none => ([], 1)

theorem upto0_zero : ∀ {r : List UInt8} {j : Nat}, r[j]? = some 0 → j ≤ (upto0 r).length → (upto0 r).length = j
  | [], j, h, _ => by simp at h
  | b :: r, 0, h, _ => by simp at h; subst h; rfl
  | b :: r, j + 1, h, hj => by
    by_cases hb : b = 0
    · subst hb; simp [upto0] at hj
    · have e : upto0 (b :: r) = b :: upto0 r := by simp [upto0, hb]
      rw [e] at hj ⊢
      simp only [List.length_cons] at hj ⊢
      rw [upto0_zero (by simpa using h) (by omega)]
theorem upto0_next : ∀ {r : List UInt8} {j : Nat} {c : UInt8}, r[j]? = some c → c ≠ 0 → j ≤ (upto0 r).length → j + 1 ≤ (upto0 r).length
  | [], j, c, h, _, _ => by simp at h
  | b :: r, 0, c, h, hc, _ => by simp at h; subst h; simp [upto0, hc]
  | b :: r, j + 1, c, h, hc, hj => by
    by_cases hb : b = 0
    · subst hb; simp [upto0] at hj
    · have e : upto0 (b :: r) = b :: upto0 r := by simp [upto0, hb]
      rw [e] at hj ⊢
      simp only [List.length_cons] at hj ⊢
      have := upto0_next (r := r) (j := j) (c := c) (by simpa using h) hc (by omega)
      omega
theorem upto0_le (r : List UInt8) : (upto0 r).length ≤ r.length := (List.takeWhile_prefix _).length_le
theorem upto0_take (r : List UInt8) : r.take (upto0 r).length = upto0 r := (List.prefix_iff_eq_take.1 (List.takeWhile_prefix _)).symm

section
variable {s : List UInt8} {acc : List Val} {b : UInt8} {r r' : List UInt8} {v : Val}
theorem step_some (hi : valsM s = (valsM (b :: r)).map (acc ++ ·)) (h : valOne (b :: r) = some (v, r')) (hg : goodM v = true) : valsM s = (valsM r').map ((acc ++ [v]) ++ ·) := by
  rw [hi, valsM_some h, if_pos hg, Option.map_map]
  congr 1; funext l; simp
theorem step_bad (hi : valsM s = (valsM (b :: r)).map (acc ++ ·)) (h : valOne (b :: r) = some (v, r')) (hg : goodM v = false) : valsR s = ([], 1) := by
  have : valsM s = none := by rw [hi, valsM_some h, hg]; rfl
  simp [valsR, this]
theorem step_none (hi : valsM s = (valsM (b :: r)).map (acc ++ ·)) (h : valOne (b :: r) = none) : valsR s = ([], 1) := by
  have : valsM s = none := by rw [hi, valsM_none (by simp) h]; rfl
  simp [valsR, this]
end

theorem vals_any (s : List UInt8) (hlen : 32 * s.length ≤ 140737488355328) : CallA Tryd.prog 27 [aS s] [] [] [] (.tup [.iv (.sl ((valsR s).1.map Val.c)), .iv (I (valsR s).2)]) := by
  refine CallA.intro 81 Tryd.func27 rfl rfl rfl (fun w0 E0 => ?_)
  (repeat' (first | (refine LW.is ?_; first | (refine s_nil ?_) | (apply s_asIv; exact rfl; exact rfl) | (apply s_asNil; exact rfl; exact rfl)) | (refine c_seq ?_) | (refine L.block ?_) | (refine s_region ?_) | (refine L.thenN ?_)))
  refine L.adopt 4 (s := 4) (t := 23) (k := 3) rfl rfl rfl ?_
  refine L.loopP (ι := List Val × List UInt8) (fun i => ⟨[(4, .row 4 (i.1.map Val.c)), (0, aS i.2)], [], [(4, ⟨23, 3⟩)]⟩) (fun i => i.2.length) (fun i => valsM s = (valsM i.2).map (i.1 ++ ·) ∧ i.1.length + i.2.length ≤ s.length) (i0 := ([], s)) ?_ (by simp) ?_
  · (refine Wk.mk' (by intro id h; cases h) ?_ ?_ ?_ <;> repeat' (first | exact WkF.nil | exact WkB.nil | exact WkT.nil | (refine WkF.cons rfl (Sub.refl _) ?_) | (refine WkB.cons rfl rfl (Subs.refl _) ?_) | (refine WkT.cons rfl ?_)))
  rintro ⟨acc, s'⟩ ⟨hi, hl⟩ K hK
  dsimp only at hi hl ⊢
  cases s' with
  | nil =>
    have hne : (!(([] : List UInt8) == [])) = false := rfl
    (repeat' (first | (refine LW.is ?_; first | (refine s_nil ?_) | (apply s_mvIv; exact rfl; exact rfl) | (apply s_mvRow; exact rfl; exact rfl) | (apply s_asIv; exact rfl; exact rfl) | (apply s_asRow; exact rfl; exact rfl) | (apply s_neqS; exact rfl; exact rfl; exact rfl)) | (refine c_seq ?_) | (refine s_region ?_) | (refine L.thenN ?_) | (refine L.thenE ?_) | (refine L.inE ?_) | (refine L.ret ?_) | (refine L.exit ?_) | (apply c_condF; exact rfl; (first | exact rfl | assumption))))
    all_goals (first | (apply L.ends1; exact rfl; exact rfl; exact rfl) | (apply L.ends2; exact rfl; exact rfl; exact rfl) | (apply L.ends3; exact rfl; exact rfl; exact rfl) | (apply L.ends1A; exact rfl; exact rfl; exact rfl) | (apply L.ends2A; exact rfl; exact rfl; exact rfl))
    rw [valsM_nil] at hi
    simp [valsR, hi]
  | cons b r =>
    have hne : (!(b :: r == ([] : List UInt8))) = true := by simp
    simp only [List.length_cons] at hl
    by_cases h1 : b = 1
    · subst h1
      have hv : valOne (1 :: r) = some (⟨0, 0, []⟩, r) := rfl
      have hg : goodM ⟨0, 0, []⟩ = true := rfl
      have hng : (!goodM ⟨0, 0, []⟩) = false := rfl
      (repeat' (first | (refine LW.is ?_; first | ((apply s_indexS; exact rfl; exact rfl; exact rfl; decide; exact rfl)) | ((apply s_sliceSl; exact rfl; exact rfl; exact rfl; decide; (simp <;> omega); (show _ = r; exact rfl))) | ((apply s_call0; exact rfl; rotate_left; exact rfl; rotate_left 3; exact good_any ⟨0, 0, []⟩; exact rfl)) | (refine s_nil ?_) | (apply s_mvIv; exact rfl; exact rfl) | (apply s_mvRow; exact rfl; exact rfl) | (apply s_asIv; exact rfl; exact rfl) | (apply s_asRow; exact rfl; exact rfl) | (apply s_fieldP; exact rfl; exact rfl; exact rfl) | (apply s_load1P; exact rfl; exact rfl; exact rfl; (apply n_some; exact rfl; (first | exact nIm rfl | exact nSl rfl | exact nIv rfl | exact nRow rfl | exact nNil rfl | exact nPtr rfl | exact nAny rfl | exact rfl))) | (apply s_loadAP; exact rfl; exact rfl; exact rfl; (focus repeat' (first | exact nl_nil rfl | (apply nl_cons; exact rfl) | exact nIm rfl | exact nSl rfl | exact nIv rfl | exact nRow rfl | exact nNil rfl | exact nPtr rfl | exact nAny rfl | exact nIIm rfl | exact nISl rfl | exact rfl)); exact rfl) | (apply s_eqlI; exact rfl; exact rfl; exact rfl) | (apply s_neqS; exact rfl; exact rfl; exact rfl) | (apply s_not; exact rfl; exact rfl) | (apply s_alloc; exact rfl; exact rfl; (focus repeat' (first | exact nl_nil rfl | (apply nl_cons; exact rfl) | exact nIm rfl | exact nSl rfl | exact nIv rfl | exact nRow rfl | exact nNil rfl | exact nPtr rfl | exact nAny rfl | exact nIIm rfl | exact nISl rfl | exact rfl)); exact rfl; exact rfl) | (apply s_build; exact rfl; exact rfl; (apply n_some; exact rfl; (focus repeat' (first | exact nl_nil rfl | (apply nl_cons; exact rfl) | exact nIm rfl | exact nSl rfl | exact nIv rfl | exact nRow rfl | exact nNil rfl | exact nPtr rfl | exact nAny rfl | exact nIIm rfl | exact nISl rfl | exact rfl)))) | (apply s_bslice; exact rfl; exact rfl; exact rfl; exact rfl; exact rfl; (apply n_some; exact rfl; (focus repeat' (first | exact nl_nil rfl | (apply nl_cons; exact rfl) | exact nIm rfl | exact nSl rfl | exact nIv rfl | exact nRow rfl | exact nNil rfl | exact nPtr rfl | exact nAny rfl | exact nIIm rfl | exact nISl rfl | exact rfl))); (apply n_some; exact rfl; (focus repeat' (first | exact nl_nil rfl | (apply nl_cons; exact rfl) | exact nIm rfl | exact nSl rfl | exact nIv rfl | exact nRow rfl | exact nNil rfl | exact nPtr rfl | exact nAny rfl | exact nIIm rfl | exact nISl rfl | exact rfl))); exact rfl; (focus repeat' (first | exact nl_nil rfl | (apply nl_cons; exact rfl) | exact nIm rfl | exact nSl rfl | exact nIv rfl | exact nRow rfl | exact nNil rfl | exact nPtr rfl | exact nAny rfl | exact nIIm rfl | exact nISl rfl | exact rfl)); exact rfl) | (apply s_store; exact rfl; exact rfl; exact rfl; exact rfl; exact rfl; exact rfl; (focus repeat' (first | exact nl_nil rfl | (apply nl_cons; exact rfl) | exact nIm rfl | exact nSl rfl | exact nIv rfl | exact nRow rfl | exact nNil rfl | exact nPtr rfl | exact nAny rfl | exact nIIm rfl | exact nISl rfl | exact rfl))) | (apply s_subI; exact rfl; exact rfl; exact rfl; (first | omega | decide | (dsimp only; omega)); (first | omega | decide | (dsimp only; omega))) | (apply s_convU8; exact rfl; exact rfl) | (apply s_append; exact rfl; exact rfl; exact rfl; exact rfl; (focus repeat' (first | exact len_nil | apply len_app | (refine len_map (fun x => rfl)) | (refine len_cons rfl ?_) | exact len_chunks rfl | assumption)); (focus repeat' (first | exact len_nil | apply len_app | (refine len_map (fun x => rfl)) | (refine len_cons rfl ?_) | exact len_chunks rfl | assumption)); (first | (simp [maxLen, chunks_length]; done) | (simp [maxLen, chunks_length]; omega)); (first | (simp [maxLen, chunks_length]; done) | (simp [maxLen, chunks_length]; omega)); exact rfl; exact rfl)) | (refine c_seq ?_) | (refine L.block ?_) | (refine s_region ?_) | (refine L.thenN ?_) | (refine L.inN ?_) | (refine L.skip ?_) | (apply c_condT; exact rfl; (first | exact rfl | assumption)) | (apply c_condF; exact rfl; (first | exact rfl | assumption))))
      · refine L.only [4, 0] ?_
        refine L.retok 4 79 4 rfl rfl rfl rfl ?_
        refine hK _ (acc ++ [⟨0, 0, []⟩], r) ⟨step_some hi hv hg, by simp <;> omega⟩ (by simp <;> omega) (Wk.mk' (by intro id h; cases h) (.cons rfl (Sub.of_eq (congrArg (AV.row 4) ?_)) (.cons rfl (Sub.refl _) .nil)) .nil (.cons rfl .nil))
        simp [chunks, Val.c]
    by_cases h2 : b = 2
    · subst h2
      by_cases hr : r.length < 4
      · have hv : valOne (2 :: r) = none := by simp [valOne, hr]
        have hlt : decide ((r.length : Int) < 4) = true := by simp; omega
        (repeat' (first | (refine LW.is ?_; first | ((apply s_indexS; exact rfl; exact rfl; exact rfl; decide; exact rfl)) | ((apply s_sliceSl; exact rfl; exact rfl; exact rfl; decide; (simp <;> omega); (show _ = r; exact rfl))) | (refine s_nil ?_) | (apply s_mvIv; exact rfl; exact rfl) | (apply s_asIv; exact rfl; exact rfl) | (apply s_asNil; exact rfl; exact rfl) | (apply s_fieldP; exact rfl; exact rfl; exact rfl) | (apply s_load1P; exact rfl; exact rfl; exact rfl; (apply n_some; exact rfl; (first | exact nIm rfl | exact nSl rfl | exact nIv rfl | exact nRow rfl | exact nNil rfl | exact nPtr rfl | exact nAny rfl | exact rfl))) | (apply s_lenS; exact rfl; exact rfl) | (apply s_eqlI; exact rfl; exact rfl; exact rfl) | (apply s_lssI; exact rfl; exact rfl; exact rfl) | (apply s_neqS; exact rfl; exact rfl; exact rfl) | (apply s_alloc; exact rfl; exact rfl; (focus repeat' (first | exact nl_nil rfl | (apply nl_cons; exact rfl) | exact nIm rfl | exact nSl rfl | exact nIv rfl | exact nRow rfl | exact nNil rfl | exact nPtr rfl | exact nAny rfl | exact nIIm rfl | exact nISl rfl | exact rfl)); exact rfl; exact rfl) | (apply s_build; exact rfl; exact rfl; (apply n_some; exact rfl; (focus repeat' (first | exact nl_nil rfl | (apply nl_cons; exact rfl) | exact nIm rfl | exact nSl rfl | exact nIv rfl | exact nRow rfl | exact nNil rfl | exact nPtr rfl | exact nAny rfl | exact nIIm rfl | exact nISl rfl | exact rfl)))) | (apply s_store; exact rfl; exact rfl; exact rfl; exact rfl; exact rfl; exact rfl; (focus repeat' (first | exact nl_nil rfl | (apply nl_cons; exact rfl) | exact nIm rfl | exact nSl rfl | exact nIv rfl | exact nRow rfl | exact nNil rfl | exact nPtr rfl | exact nAny rfl | exact nIIm rfl | exact nISl rfl | exact rfl))) | (apply s_subI; exact rfl; exact rfl; exact rfl; (first | omega | decide | (dsimp only; omega)); (first | omega | decide | (dsimp only; omega))) | (apply s_convU8; exact rfl; exact rfl)) | (refine c_seq ?_) | (refine L.block ?_) | (refine s_region ?_) | (refine L.thenN ?_) | (refine L.thenR ?_) | (refine L.inR ?_) | (refine L.ret ?_) | (refine L.skip ?_) | (apply c_condT; exact rfl; (first | exact rfl | assumption)) | (apply c_condF; exact rfl; (first | exact rfl | assumption))))
        all_goals (first | (apply L.ends1; exact rfl; exact rfl; exact rfl) | (apply L.ends2; exact rfl; exact rfl; exact rfl) | (apply L.ends3; exact rfl; exact rfl; exact rfl) | (apply L.ends1A; exact rfl; exact rfl; exact rfl) | (apply L.ends2A; exact rfl; exact rfl; exact rfl))
        rw [step_none hi hv]; rfl
      · have hlt : decide ((r.length : Int) < 4) = false := by simp; omega
        obtain ⟨c0, c1, c2, c3, t, rfl⟩ : ∃ c0 c1 c2 c3 t, r = c0 :: c1 :: c2 :: c3 :: t := by
          match r, hr with
          | [], h => simp at h
          | [_], h => simp at h
          | [_, _], h => simp at h
          | [_, _, _], h => simp at h
          | c0 :: c1 :: c2 :: c3 :: t, _ => exact ⟨c0, c1, c2, c3, t, rfl⟩
        have k0 := c0.toNat_lt
        have k1 := c1.toNat_lt
        have k2 := c2.toNat_lt
        have k3 := c3.toNat_lt
        have hv : valOne (2 :: c0 :: c1 :: c2 :: c3 :: t) = some (⟨1, dec4 (c0 :: c1 :: c2 :: c3 :: t), []⟩, t) := by simp [valOne]
        cases hg : goodM ⟨1, dec4 (c0 :: c1 :: c2 :: c3 :: t), []⟩ with
        | false =>
          have hng : (!goodM ⟨1, dec4 (c0 :: c1 :: c2 :: c3 :: t), []⟩) = true := by rw [hg]; rfl
          (repeat' (first | (refine LW.is ?_; first | ((apply s_indexS; exact rfl; exact rfl; exact rfl; decide; exact rfl)) | ((apply s_sliceSl; exact rfl; exact rfl; exact rfl; decide; (simp <;> omega); (first | (show _ = c0 :: c1 :: c2 :: c3 :: t; exact rfl) | (show _ = t; exact rfl)))) | ((apply s_call0; exact rfl; rotate_left; exact rfl; rotate_left 3; exact good_any ⟨1, dec4 (c0 :: c1 :: c2 :: c3 :: t), []⟩; exact rfl)) | (refine s_nil ?_) | (apply s_mvIv; exact rfl; exact rfl) | (apply s_asIv; exact rfl; exact rfl) | (apply s_asNil; exact rfl; exact rfl) | (apply s_fieldP; exact rfl; exact rfl; exact rfl) | (apply s_load1P; exact rfl; exact rfl; exact rfl; (apply n_some; exact rfl; (first | exact nIm rfl | exact nSl rfl | exact nIv rfl | exact nRow rfl | exact nNil rfl | exact nPtr rfl | exact nAny rfl | exact rfl))) | (apply s_loadAP; exact rfl; exact rfl; exact rfl; (focus repeat' (first | exact nl_nil rfl | (apply nl_cons; exact rfl) | exact nIm rfl | exact nSl rfl | exact nIv rfl | exact nRow rfl | exact nNil rfl | exact nPtr rfl | exact nAny rfl | exact nIIm rfl | exact nISl rfl | exact rfl)); exact rfl) | (apply s_lenS; exact rfl; exact rfl) | (apply s_eqlI; exact rfl; exact rfl; exact rfl) | (apply s_lssI; exact rfl; exact rfl; exact rfl) | (apply s_neqS; exact rfl; exact rfl; exact rfl) | (apply s_not; exact rfl; exact rfl) | (apply s_alloc; exact rfl; exact rfl; (focus repeat' (first | exact nl_nil rfl | (apply nl_cons; exact rfl) | exact nIm rfl | exact nSl rfl | exact nIv rfl | exact nRow rfl | exact nNil rfl | exact nPtr rfl | exact nAny rfl | exact nIIm rfl | exact nISl rfl | exact rfl)); exact rfl; exact rfl) | (apply s_build; exact rfl; exact rfl; (apply n_some; exact rfl; (focus repeat' (first | exact nl_nil rfl | (apply nl_cons; exact rfl) | exact nIm rfl | exact nSl rfl | exact nIv rfl | exact nRow rfl | exact nNil rfl | exact nPtr rfl | exact nAny rfl | exact nIIm rfl | exact nISl rfl | exact rfl)))) | (apply s_store; exact rfl; exact rfl; exact rfl; exact rfl; exact rfl; exact rfl; (focus repeat' (first | exact nl_nil rfl | (apply nl_cons; exact rfl) | exact nIm rfl | exact nSl rfl | exact nIv rfl | exact nRow rfl | exact nNil rfl | exact nPtr rfl | exact nAny rfl | exact nIIm rfl | exact nISl rfl | exact rfl))) | (apply s_subI; exact rfl; exact rfl; exact rfl; (first | omega | decide | (dsimp only; omega)); (first | omega | decide | (dsimp only; omega))) | (apply s_convU8; exact rfl; exact rfl)) | (refine DR.is ?_; first | ((apply d_indexS; exact rfl; exact rfl; exact rfl; decide; exact rfl)) | ((apply d_shlA (p := 16777216); exact rfl; exact rfl; exact rfl; decide; decide; omega; omega)) | ((apply d_shlA (p := 65536); exact rfl; exact rfl; exact rfl; decide; decide; omega; omega)) | ((apply d_shlA (p := 256); exact rfl; exact rfl; exact rfl; decide; decide; omega; omega)) | ((apply d_orA (a := (c0.toNat : Int)) (p := 16777216) 24; exact rfl; exact rfl; exact rfl; decide; omega; omega; omega; omega; omega)) | ((apply d_orA (a := (c0.toNat : Int) * 256 + c1.toNat) (p := 65536) 16; exact rfl; exact rfl; exact rfl; decide; omega; omega; omega; omega; omega)) | ((apply d_orA (a := (c0.toNat : Int) * 65536 + c1.toNat * 256 + c2.toNat) (p := 256) 8; exact rfl; exact rfl; exact rfl; decide; omega; omega; omega; omega; omega)) | (apply d_nil; kernel_rfl) | (apply d_mvIv; exact rfl; exact rfl) | (apply d_fieldP; exact rfl; exact rfl; exact rfl) | (apply d_store; exact rfl; exact rfl; exact rfl; exact rfl; exact rfl; exact rfl; (focus repeat' (first | exact nl_nil rfl | (apply nl_cons; exact rfl) | exact nIm rfl | exact nSl rfl | exact nIv rfl | exact nRow rfl | exact nNil rfl | exact nPtr rfl | exact nAny rfl | exact nIIm rfl | exact nISl rfl | exact rfl))) | (apply d_subI; exact rfl; exact rfl; exact rfl; (first | omega | decide | (dsimp only; omega)); (first | omega | decide | (dsimp only; omega))) | (apply d_convU8; exact rfl; exact rfl)) | (refine c_seq ?_) | (refine L.block ?_) | (refine s_region ?_) | (refine d_region ?_) | (refine L.thenN ?_) | (refine L.thenR ?_) | (refine L.inN ?_) | (refine L.inR ?_) | (refine L.ret ?_) | (refine L.skip ?_) | (apply c_condT; exact rfl; (first | exact rfl | assumption)) | (apply c_condF; exact rfl; (first | exact rfl | assumption))))
          all_goals (first | (apply L.ends1; exact rfl; exact rfl; exact rfl) | (apply L.ends2; exact rfl; exact rfl; exact rfl) | (apply L.ends3; exact rfl; exact rfl; exact rfl) | (apply L.ends1A; exact rfl; exact rfl; exact rfl) | (apply L.ends2A; exact rfl; exact rfl; exact rfl))
          rw [step_bad hi hv hg]; rfl
        | true =>
          have hng : (!goodM ⟨1, dec4 (c0 :: c1 :: c2 :: c3 :: t), []⟩) = false := by rw [hg]; rfl
          (repeat' (first | (refine LW.is ?_; first | ((apply s_indexS; exact rfl; exact rfl; exact rfl; decide; exact rfl)) | ((apply s_sliceSl; exact rfl; exact rfl; exact rfl; decide; (simp <;> omega); (first | (show _ = c0 :: c1 :: c2 :: c3 :: t; exact rfl) | (show _ = t; exact rfl)))) | ((apply s_call0; exact rfl; rotate_left; exact rfl; rotate_left 3; exact good_any ⟨1, dec4 (c0 :: c1 :: c2 :: c3 :: t), []⟩; exact rfl)) | (refine s_nil ?_) | (apply s_mvIv; exact rfl; exact rfl) | (apply s_mvRow; exact rfl; exact rfl) | (apply s_asIv; exact rfl; exact rfl) | (apply s_asRow; exact rfl; exact rfl) | (apply s_fieldP; exact rfl; exact rfl; exact rfl) | (apply s_load1P; exact rfl; exact rfl; exact rfl; (apply n_some; exact rfl; (first | exact nIm rfl | exact nSl rfl | exact nIv rfl | exact nRow rfl | exact nNil rfl | exact nPtr rfl | exact nAny rfl | exact rfl))) | (apply s_loadAP; exact rfl; exact rfl; exact rfl; (focus repeat' (first | exact nl_nil rfl | (apply nl_cons; exact rfl) | exact nIm rfl | exact nSl rfl | exact nIv rfl | exact nRow rfl | exact nNil rfl | exact nPtr rfl | exact nAny rfl | exact nIIm rfl | exact nISl rfl | exact rfl)); exact rfl) | (apply s_lenS; exact rfl; exact rfl) | (apply s_eqlI; exact rfl; exact rfl; exact rfl) | (apply s_lssI; exact rfl; exact rfl; exact rfl) | (apply s_neqS; exact rfl; exact rfl; exact rfl) | (apply s_not; exact rfl; exact rfl) | (apply s_alloc; exact rfl; exact rfl; (focus repeat' (first | exact nl_nil rfl | (apply nl_cons; exact rfl) | exact nIm rfl | exact nSl rfl | exact nIv rfl | exact nRow rfl | exact nNil rfl | exact nPtr rfl | exact nAny rfl | exact nIIm rfl | exact nISl rfl | exact rfl)); exact rfl; exact rfl) | (apply s_build; exact rfl; exact rfl; (apply n_some; exact rfl; (focus repeat' (first | exact nl_nil rfl | (apply nl_cons; exact rfl) | exact nIm rfl | exact nSl rfl | exact nIv rfl | exact nRow rfl | exact nNil rfl | exact nPtr rfl | exact nAny rfl | exact nIIm rfl | exact nISl rfl | exact rfl)))) | (apply s_bslice; exact rfl; exact rfl; exact rfl; exact rfl; exact rfl; (apply n_some; exact rfl; (focus repeat' (first | exact nl_nil rfl | (apply nl_cons; exact rfl) | exact nIm rfl | exact nSl rfl | exact nIv rfl | exact nRow rfl | exact nNil rfl | exact nPtr rfl | exact nAny rfl | exact nIIm rfl | exact nISl rfl | exact rfl))); (apply n_some; exact rfl; (focus repeat' (first | exact nl_nil rfl | (apply nl_cons; exact rfl) | exact nIm rfl | exact nSl rfl | exact nIv rfl | exact nRow rfl | exact nNil rfl | exact nPtr rfl | exact nAny rfl | exact nIIm rfl | exact nISl rfl | exact rfl))); exact rfl; (focus repeat' (first | exact nl_nil rfl | (apply nl_cons; exact rfl) | exact nIm rfl | exact nSl rfl | exact nIv rfl | exact nRow rfl | exact nNil rfl | exact nPtr rfl | exact nAny rfl | exact nIIm rfl | exact nISl rfl | exact rfl)); exact rfl) | (apply s_store; exact rfl; exact rfl; exact rfl; exact rfl; exact rfl; exact rfl; (focus repeat' (first | exact nl_nil rfl | (apply nl_cons; exact rfl) | exact nIm rfl | exact nSl rfl | exact nIv rfl | exact nRow rfl | exact nNil rfl | exact nPtr rfl | exact nAny rfl | exact nIIm rfl | exact nISl rfl | exact rfl))) | (apply s_subI; exact rfl; exact rfl; exact rfl; (first | omega | decide | (dsimp only; omega)); (first | omega | decide | (dsimp only; omega))) | (apply s_convU8; exact rfl; exact rfl) | (apply s_append; exact rfl; exact rfl; exact rfl; exact rfl; (focus repeat' (first | exact len_nil | apply len_app | (refine len_map (fun x => rfl)) | (refine len_cons rfl ?_) | exact len_chunks rfl | assumption)); (focus repeat' (first | exact len_nil | apply len_app | (refine len_map (fun x => rfl)) | (refine len_cons rfl ?_) | exact len_chunks rfl | assumption)); (first | (simp [maxLen, chunks_length]; done) | (simp [maxLen, chunks_length]; omega)); (first | (simp [maxLen, chunks_length]; done) | (simp [maxLen, chunks_length]; omega)); exact rfl; exact rfl)) | (refine DR.is ?_; first | ((apply d_indexS; exact rfl; exact rfl; exact rfl; decide; exact rfl)) | ((apply d_shlA (p := 16777216); exact rfl; exact rfl; exact rfl; decide; decide; omega; omega)) | ((apply d_shlA (p := 65536); exact rfl; exact rfl; exact rfl; decide; decide; omega; omega)) | ((apply d_shlA (p := 256); exact rfl; exact rfl; exact rfl; decide; decide; omega; omega)) | ((apply d_orA (a := (c0.toNat : Int)) (p := 16777216) 24; exact rfl; exact rfl; exact rfl; decide; omega; omega; omega; omega; omega)) | ((apply d_orA (a := (c0.toNat : Int) * 256 + c1.toNat) (p := 65536) 16; exact rfl; exact rfl; exact rfl; decide; omega; omega; omega; omega; omega)) | ((apply d_orA (a := (c0.toNat : Int) * 65536 + c1.toNat * 256 + c2.toNat) (p := 256) 8; exact rfl; exact rfl; exact rfl; decide; omega; omega; omega; omega; omega)) | (apply d_nil; kernel_rfl) | (apply d_mvIv; exact rfl; exact rfl) | (apply d_fieldP; exact rfl; exact rfl; exact rfl) | (apply d_store; exact rfl; exact rfl; exact rfl; exact rfl; exact rfl; exact rfl; (focus repeat' (first | exact nl_nil rfl | (apply nl_cons; exact rfl) | exact nIm rfl | exact nSl rfl | exact nIv rfl | exact nRow rfl | exact nNil rfl | exact nPtr rfl | exact nAny rfl | exact nIIm rfl | exact nISl rfl | exact rfl))) | (apply d_subI; exact rfl; exact rfl; exact rfl; (first | omega | decide | (dsimp only; omega)); (first | omega | decide | (dsimp only; omega))) | (apply d_convU8; exact rfl; exact rfl)) | (refine c_seq ?_) | (refine L.block ?_) | (refine s_region ?_) | (refine d_region ?_) | (refine L.thenN ?_) | (refine L.inN ?_) | (refine L.skip ?_) | (apply c_condT; exact rfl; (first | exact rfl | assumption)) | (apply c_condF; exact rfl; (first | exact rfl | assumption))))
          refine L.only [4, 0] ?_
          refine L.retok 4 79 4 rfl rfl rfl rfl ?_
          refine hK _ (acc ++ [⟨1, dec4 (c0 :: c1 :: c2 :: c3 :: t), []⟩], t) ⟨step_some hi hv hg, by simp at hl ⊢ <;> omega⟩ (by simp <;> omega) (Wk.mk' (by intro id h; cases h) (.cons rfl (Sub.of_eq (congrArg (AV.row 4) ?_)) (.cons rfl (Sub.refl _) .nil)) .nil (.cons rfl .nil))
          simp [chunks, Val.c, dec4]
    by_cases h3 : b = 3
    · subst h3
      (repeat' (first | (refine LW.is ?_; first | ((apply s_indexS; exact rfl; exact rfl; exact rfl; decide; exact rfl)) | ((apply s_sliceSl; exact rfl; exact rfl; exact rfl; decide; (simp <;> omega); (show _ = r; exact rfl))) | (refine s_nil ?_) | (apply s_mvIv; exact rfl; exact rfl) | (apply s_asIv; exact rfl; exact rfl) | (apply s_fieldP; exact rfl; exact rfl; exact rfl) | (apply s_load1P; exact rfl; exact rfl; exact rfl; (apply n_some; exact rfl; (first | exact nIm rfl | exact nSl rfl | exact nIv rfl | exact nRow rfl | exact nNil rfl | exact nPtr rfl | exact nAny rfl | exact rfl))) | (apply s_eqlI; exact rfl; exact rfl; exact rfl) | (apply s_neqS; exact rfl; exact rfl; exact rfl) | (apply s_alloc; exact rfl; exact rfl; (focus repeat' (first | exact nl_nil rfl | (apply nl_cons; exact rfl) | exact nIm rfl | exact nSl rfl | exact nIv rfl | exact nRow rfl | exact nNil rfl | exact nPtr rfl | exact nAny rfl | exact nIIm rfl | exact nISl rfl | exact rfl)); exact rfl; exact rfl) | (apply s_build; exact rfl; exact rfl; (apply n_some; exact rfl; (focus repeat' (first | exact nl_nil rfl | (apply nl_cons; exact rfl) | exact nIm rfl | exact nSl rfl | exact nIv rfl | exact nRow rfl | exact nNil rfl | exact nPtr rfl | exact nAny rfl | exact nIIm rfl | exact nISl rfl | exact rfl)))) | (apply s_store; exact rfl; exact rfl; exact rfl; exact rfl; exact rfl; exact rfl; (focus repeat' (first | exact nl_nil rfl | (apply nl_cons; exact rfl) | exact nIm rfl | exact nSl rfl | exact nIv rfl | exact nRow rfl | exact nNil rfl | exact nPtr rfl | exact nAny rfl | exact nIIm rfl | exact nISl rfl | exact rfl))) | (apply s_subI; exact rfl; exact rfl; exact rfl; (first | omega | decide | (dsimp only; omega)); (first | omega | decide | (dsimp only; omega))) | (apply s_convU8; exact rfl; exact rfl)) | (refine c_seq ?_) | (refine L.block ?_) | (refine s_region ?_) | (refine L.thenN ?_) | (refine L.skip ?_) | (apply c_condT; exact rfl; (first | exact rfl | assumption)) | (apply c_condF; exact rfl; (first | exact rfl | assumption))))
      have hule := upto0_le r
      refine L.loopP (ι := Nat) (fun j => ⟨[(6, aI (j : Int)), (5, .ptr 5 0), (4, .row 4 (acc.map Val.c)), (0, aS r)], [(5, ⟨23, [.iv (I 2), .iv (I 0), .iv (S [])]⟩)], [(4, ⟨23, 3⟩)]⟩) (fun j => r.length - j) (fun j => j ≤ (upto0 r).length) (i0 := 0) ?_ (Nat.zero_le _) ?_
      · (refine Wk.mk' (by intro id h; cases h) ?_ ?_ ?_ <;> repeat' (first | exact WkF.nil | exact WkB.nil | exact WkT.nil | (refine WkF.cons rfl (Sub.refl _) ?_) | (refine WkB.cons rfl rfl (Subs.refl _) ?_) | (refine WkT.cons rfl ?_)))
      intro j hj K2 hK2
      cases hc : r[j]? with
      | none =>
        have hlt := ltF hc
        have hjl : r.length ≤ j := List.getElem?_eq_none_iff.1 hc
        have hju : (upto0 r).length = r.length := by omega
        have hv : valOne (3 :: r) = none := by simp [valOne, hju]
        have hjr : ((j : Int) == (r.length : Int)) = true := by simp; omega
        (repeat' (first | (refine LW.is ?_; first | (refine s_nil ?_) | (apply s_mvIv; exact rfl; exact rfl) | (apply s_asIv; exact rfl; exact rfl) | (apply s_asNil; exact rfl; exact rfl) | (apply s_lenS; exact rfl; exact rfl) | (apply s_eqlI; exact rfl; exact rfl; exact rfl) | (apply s_lssI; exact rfl; exact rfl; exact rfl) | (apply s_gskipT; exact rfl; exact rfl; exact rfl; (first | exact rfl | assumption)) | (apply s_pickFIv; exact rfl; exact rfl; (first | exact rfl | assumption); exact rfl)) | (refine c_seq ?_) | (refine s_region ?_) | (refine L.thenN ?_) | (refine L.thenE ?_) | (refine L.thenR ?_) | (refine L.inR ?_) | (refine L.inE ?_) | (refine L.ret ?_) | (refine L.exit ?_) | (apply c_condT; exact rfl; (first | exact rfl | assumption)) | (apply c_condF; exact rfl; (first | exact rfl | assumption))))
        all_goals (first | (apply L.ends1; exact rfl; exact rfl; exact rfl) | (apply L.ends2; exact rfl; exact rfl; exact rfl) | (apply L.ends3; exact rfl; exact rfl; exact rfl) | (apply L.ends1A; exact rfl; exact rfl; exact rfl) | (apply L.ends2A; exact rfl; exact rfl; exact rfl))
        rw [step_none hi hv]; rfl
      | some c =>
        have hlt := ltT hc
        have hjl := ltN hc
        by_cases hz : c = 0
        · subst hz
          have hju := upto0_zero hc hj
          have htk : r.take j = upto0 r := by rw [← hju]; exact upto0_take r
          have hjr : ((j : Int) == (r.length : Int)) = false := by simp; omega
          have hv : valOne (3 :: r) = some (⟨2, 0, r.take j⟩, r.drop (j + 1)) := by
            have : ¬ (upto0 r).length = r.length := by omega
            simp only [valOne]
            rw [if_neg (by decide), if_neg (by decide), if_pos (by decide), if_neg this, hju, htk]
          cases hg : goodM ⟨2, 0, r.take j⟩ with
          | false =>
            have hng : (!goodM ⟨2, 0, r.take j⟩) = true := by rw [hg]; rfl
            (repeat' (first | (refine LW.is ?_; first | ((apply s_call0; exact rfl; rotate_left; exact rfl; rotate_left 3; exact good_any ⟨2, 0, r.take j⟩; exact rfl)) | (refine s_nil ?_) | (apply s_mvIv; exact rfl; exact rfl) | (apply s_asIv; exact rfl; exact rfl) | (apply s_asNil; exact rfl; exact rfl) | (apply s_loadAP; exact rfl; exact rfl; exact rfl; (focus repeat' (first | exact nl_nil rfl | (apply nl_cons; exact rfl) | exact nIm rfl | exact nSl rfl | exact nIv rfl | exact nRow rfl | exact nNil rfl | exact nPtr rfl | exact nAny rfl | exact nIIm rfl | exact nISl rfl | exact rfl)); exact rfl) | (apply s_lenS; exact rfl; exact rfl) | (apply s_eqlI; exact rfl; exact rfl; exact rfl) | (apply s_neqI; exact rfl; exact rfl; exact rfl) | (apply s_lssI; exact rfl; exact rfl; exact rfl) | (apply s_not; exact rfl; exact rfl) | (apply s_indexS; exact rfl; exact rfl; exact rfl; (first | omega | decide | (dsimp only; omega)); (exact getS (by assumption))) | (apply s_gdo; exact rfl; exact rfl; (first | exact rfl | assumption)) | (apply s_pickTIv; exact rfl; exact rfl; (first | exact rfl | assumption); exact rfl)) | (refine DR.is ?_; first | ((apply d_sliceSh; exact rfl; exact rfl; exact rfl; omega; omega; (show _ = r.take j; exact rfl))) | ((apply d_sliceSl; exact rfl; exact rfl; exact rfl; omega; omega; (show _ = r.drop (j + 1); exact rfl))) | (apply d_nil; kernel_rfl) | (apply d_mvIv; exact rfl; exact rfl) | (apply d_asIv; exact rfl; exact rfl) | (apply d_fieldP; exact rfl; exact rfl; exact rfl) | (apply d_store; exact rfl; exact rfl; exact rfl; exact rfl; exact rfl; exact rfl; (focus repeat' (first | exact nl_nil rfl | (apply nl_cons; exact rfl) | exact nIm rfl | exact nSl rfl | exact nIv rfl | exact nRow rfl | exact nNil rfl | exact nPtr rfl | exact nAny rfl | exact nIIm rfl | exact nISl rfl | exact rfl))) | (apply d_addI; exact rfl; exact rfl; exact rfl; (first | omega | decide | (dsimp only; omega)); (first | omega | decide | (dsimp only; omega)))) | (refine c_seq ?_) | (refine s_region ?_) | (refine d_region ?_) | (refine L.thenN ?_) | (refine L.thenE ?_) | (refine L.thenR ?_) | (refine L.inN ?_) | (refine L.inR ?_) | (refine L.inE ?_) | (refine L.ret ?_) | (refine L.exit ?_) | (refine L.skip ?_) | (apply c_condT; exact rfl; (first | exact rfl | assumption)) | (apply c_condF; exact rfl; (first | exact rfl | assumption))))
            all_goals (first | (apply L.ends1; exact rfl; exact rfl; exact rfl) | (apply L.ends2; exact rfl; exact rfl; exact rfl) | (apply L.ends3; exact rfl; exact rfl; exact rfl) | (apply L.ends1A; exact rfl; exact rfl; exact rfl) | (apply L.ends2A; exact rfl; exact rfl; exact rfl))
            rw [step_bad hi hv hg]; rfl
          | true =>
            have hng : (!goodM ⟨2, 0, r.take j⟩) = false := by rw [hg]; rfl
            (repeat' (first | (refine LW.is ?_; first | ((apply s_call0; exact rfl; rotate_left; exact rfl; rotate_left 3; exact good_any ⟨2, 0, r.take j⟩; exact rfl)) | (refine s_nil ?_) | (apply s_mvIv; exact rfl; exact rfl) | (apply s_mvRow; exact rfl; exact rfl) | (apply s_asRow; exact rfl; exact rfl) | (apply s_loadAP; exact rfl; exact rfl; exact rfl; (focus repeat' (first | exact nl_nil rfl | (apply nl_cons; exact rfl) | exact nIm rfl | exact nSl rfl | exact nIv rfl | exact nRow rfl | exact nNil rfl | exact nPtr rfl | exact nAny rfl | exact nIIm rfl | exact nISl rfl | exact rfl)); exact rfl) | (apply s_lenS; exact rfl; exact rfl) | (apply s_eqlI; exact rfl; exact rfl; exact rfl) | (apply s_neqI; exact rfl; exact rfl; exact rfl) | (apply s_lssI; exact rfl; exact rfl; exact rfl) | (apply s_not; exact rfl; exact rfl) | (apply s_bslice; exact rfl; exact rfl; exact rfl; exact rfl; exact rfl; (apply n_some; exact rfl; (focus repeat' (first | exact nl_nil rfl | (apply nl_cons; exact rfl) | exact nIm rfl | exact nSl rfl | exact nIv rfl | exact nRow rfl | exact nNil rfl | exact nPtr rfl | exact nAny rfl | exact nIIm rfl | exact nISl rfl | exact rfl))); (apply n_some; exact rfl; (focus repeat' (first | exact nl_nil rfl | (apply nl_cons; exact rfl) | exact nIm rfl | exact nSl rfl | exact nIv rfl | exact nRow rfl | exact nNil rfl | exact nPtr rfl | exact nAny rfl | exact nIIm rfl | exact nISl rfl | exact rfl))); exact rfl; (focus repeat' (first | exact nl_nil rfl | (apply nl_cons; exact rfl) | exact nIm rfl | exact nSl rfl | exact nIv rfl | exact nRow rfl | exact nNil rfl | exact nPtr rfl | exact nAny rfl | exact nIIm rfl | exact nISl rfl | exact rfl)); exact rfl) | (apply s_indexS; exact rfl; exact rfl; exact rfl; (first | omega | decide | (dsimp only; omega)); (exact getS (by assumption))) | (apply s_append; exact rfl; exact rfl; exact rfl; exact rfl; (focus repeat' (first | exact len_nil | apply len_app | (refine len_map (fun x => rfl)) | (refine len_cons rfl ?_) | exact len_chunks rfl | assumption)); (focus repeat' (first | exact len_nil | apply len_app | (refine len_map (fun x => rfl)) | (refine len_cons rfl ?_) | exact len_chunks rfl | assumption)); (first | (simp [maxLen, chunks_length]; done) | (simp [maxLen, chunks_length]; omega)); (first | (simp [maxLen, chunks_length]; done) | (simp [maxLen, chunks_length]; omega)); exact rfl; exact rfl) | (apply s_gdo; exact rfl; exact rfl; (first | exact rfl | assumption)) | (apply s_pickTIv; exact rfl; exact rfl; (first | exact rfl | assumption); exact rfl)) | (refine DR.is ?_; first | ((apply d_sliceSh; exact rfl; exact rfl; exact rfl; omega; omega; (show _ = r.take j; exact rfl))) | ((apply d_sliceSl; exact rfl; exact rfl; exact rfl; omega; omega; (show _ = r.drop (j + 1); exact rfl))) | (apply d_nil; kernel_rfl) | (apply d_mvIv; exact rfl; exact rfl) | (apply d_asIv; exact rfl; exact rfl) | (apply d_fieldP; exact rfl; exact rfl; exact rfl) | (apply d_store; exact rfl; exact rfl; exact rfl; exact rfl; exact rfl; exact rfl; (focus repeat' (first | exact nl_nil rfl | (apply nl_cons; exact rfl) | exact nIm rfl | exact nSl rfl | exact nIv rfl | exact nRow rfl | exact nNil rfl | exact nPtr rfl | exact nAny rfl | exact nIIm rfl | exact nISl rfl | exact rfl))) | (apply d_addI; exact rfl; exact rfl; exact rfl; (first | omega | decide | (dsimp only; omega)); (first | omega | decide | (dsimp only; omega)))) | (refine c_seq ?_) | (refine s_region ?_) | (refine d_region ?_) | (refine L.thenN ?_) | (refine L.thenE ?_) | (refine L.inN ?_) | (refine L.inE ?_) | (refine L.exit ?_) | (refine L.skip ?_) | (apply c_condF; exact rfl; (first | exact rfl | assumption))))
            refine L.only [4, 0] ?_
            refine L.retok 4 79 4 rfl rfl rfl rfl ?_
            refine hK _ (acc ++ [⟨2, 0, r.take j⟩], r.drop (j + 1)) ⟨step_some hi hv hg, by simp at hl ⊢ <;> omega⟩ (by simp <;> omega) (Wk.mk' (by intro id h; cases h) (.cons rfl (Sub.of_eq (congrArg (AV.row 4) ?_)) (.cons rfl (Sub.refl _) .nil)) .nil (.cons rfl .nil))
            simp [chunks, Val.c]
        · have hnz : ((c.toNat : Int) != 0) = true := by
            have : c.toNat ≠ 0 := fun h => hz (UInt8.toNat_inj.1 h)
            simpa using this
          have hnx := upto0_next hc hz hj
          (repeat' (first | (refine LW.is ?_; first | (refine s_nil ?_) | (apply s_mvIv; exact rfl; exact rfl) | (apply s_asIv; exact rfl; exact rfl) | (apply s_lenS; exact rfl; exact rfl) | (apply s_neqI; exact rfl; exact rfl; exact rfl) | (apply s_lssI; exact rfl; exact rfl; exact rfl) | (apply s_addI; exact rfl; exact rfl; exact rfl; (first | omega | decide | (dsimp only; omega)); (first | omega | decide | (dsimp only; omega))) | (apply s_indexS; exact rfl; exact rfl; exact rfl; (first | omega | decide | (dsimp only; omega)); (exact getS (by assumption))) | (apply s_gdo; exact rfl; exact rfl; (first | exact rfl | assumption)) | (apply s_pickTIv; exact rfl; exact rfl; (first | exact rfl | assumption); exact rfl)) | (refine c_seq ?_) | (refine L.block ?_) | (refine s_region ?_) | (refine L.thenN ?_) | (refine L.inN ?_) | (refine L.skip ?_) | (apply c_condT; exact rfl; (first | exact rfl | assumption))))
          refine hK2 _ (j + 1) hnx (by omega) ?_
          (refine Wk.mk' (by intro id h; cases h) ?_ ?_ ?_ <;> repeat' (first | exact WkF.nil | exact WkB.nil | exact WkT.nil | (refine WkF.cons rfl (Sub.refl _) ?_) | (refine WkB.cons rfl rfl (Subs.refl _) ?_) | (refine WkT.cons rfl ?_)))
    · have hb := b.toNat_lt
      have n1 : b.toNat ≠ 1 := fun h => h1 (UInt8.toNat_inj.1 h)
      have n2 : b.toNat ≠ 2 := fun h => h2 (UInt8.toNat_inj.1 h)
      have n3 : b.toNat ≠ 3 := fun h => h3 (UInt8.toNat_inj.1 h)
      have hv : valOne (b :: r) = none := by simp [valOne, n1, n2, n3]
      have q1 : ((b.toNat : Int) - 1 == 0) = false := by simp; omega
      have q2 : ((b.toNat : Int) - 1 == 1) = false := by simp; omega
      have q3 : ((b.toNat : Int) - 1 == 2) = false := by simp; omega
      have hg : goodM ⟨(b.toNat : Int) - 1, 0, []⟩ = false := by
        unfold goodM
        rw [if_neg (by simpa using q1), if_neg (by simpa using q2), if_neg (by simpa using q3)]
      have hng : (!goodM ⟨(b.toNat : Int) - 1, 0, []⟩) = true := by rw [hg]; rfl
      (repeat' (first | (refine LW.is ?_; first | ((apply s_indexS; exact rfl; exact rfl; exact rfl; decide; exact rfl)) | ((apply s_sliceSl; exact rfl; exact rfl; exact rfl; decide; (simp <;> omega); (show _ = r; exact rfl))) | ((apply s_call0; exact rfl; rotate_left; exact rfl; rotate_left 3; exact good_any ⟨(b.toNat : Int) - 1, 0, []⟩; exact rfl)) | (refine s_nil ?_) | (apply s_mvIv; exact rfl; exact rfl) | (apply s_asIv; exact rfl; exact rfl) | (apply s_asNil; exact rfl; exact rfl) | (apply s_fieldP; exact rfl; exact rfl; exact rfl) | (apply s_load1P; exact rfl; exact rfl; exact rfl; (apply n_some; exact rfl; (first | exact nIm rfl | exact nSl rfl | exact nIv rfl | exact nRow rfl | exact nNil rfl | exact nPtr rfl | exact nAny rfl | exact rfl))) | (apply s_loadAP; exact rfl; exact rfl; exact rfl; (focus repeat' (first | exact nl_nil rfl | (apply nl_cons; exact rfl) | exact nIm rfl | exact nSl rfl | exact nIv rfl | exact nRow rfl | exact nNil rfl | exact nPtr rfl | exact nAny rfl | exact nIIm rfl | exact nISl rfl | exact rfl)); exact rfl) | (apply s_eqlI; exact rfl; exact rfl; exact rfl) | (apply s_neqS; exact rfl; exact rfl; exact rfl) | (apply s_not; exact rfl; exact rfl) | (apply s_alloc; exact rfl; exact rfl; (focus repeat' (first | exact nl_nil rfl | (apply nl_cons; exact rfl) | exact nIm rfl | exact nSl rfl | exact nIv rfl | exact nRow rfl | exact nNil rfl | exact nPtr rfl | exact nAny rfl | exact nIIm rfl | exact nISl rfl | exact rfl)); exact rfl; exact rfl) | (apply s_build; exact rfl; exact rfl; (apply n_some; exact rfl; (focus repeat' (first | exact nl_nil rfl | (apply nl_cons; exact rfl) | exact nIm rfl | exact nSl rfl | exact nIv rfl | exact nRow rfl | exact nNil rfl | exact nPtr rfl | exact nAny rfl | exact nIIm rfl | exact nISl rfl | exact rfl)))) | (apply s_store; exact rfl; exact rfl; exact rfl; exact rfl; exact rfl; exact rfl; (focus repeat' (first | exact nl_nil rfl | (apply nl_cons; exact rfl) | exact nIm rfl | exact nSl rfl | exact nIv rfl | exact nRow rfl | exact nNil rfl | exact nPtr rfl | exact nAny rfl | exact nIIm rfl | exact nISl rfl | exact rfl))) | (apply s_subI; exact rfl; exact rfl; exact rfl; (first | omega | decide | (dsimp only; omega)); (first | omega | decide | (dsimp only; omega))) | (apply s_convU8; exact rfl; exact rfl)) | (refine c_seq ?_) | (refine L.block ?_) | (refine s_region ?_) | (refine L.thenN ?_) | (refine L.thenR ?_) | (refine L.inN ?_) | (refine L.inR ?_) | (refine L.ret ?_) | (refine L.skip ?_) | (apply c_condT; exact rfl; (first | exact rfl | assumption)) | (apply c_condF; exact rfl; (first | exact rfl | assumption))))
      all_goals (first | (apply L.ends1; exact rfl; exact rfl; exact rfl) | (apply L.ends2; exact rfl; exact rfl; exact rfl) | (apply L.ends3; exact rfl; exact rfl; exact rfl) | (apply L.ends1A; exact rfl; exact rfl; exact rfl) | (apply L.ends2A; exact rfl; exact rfl; exact rfl))
      rw [step_none hi hv]; rfl
end Go.Proofs.YtanlhpdjgelehaaDoor
