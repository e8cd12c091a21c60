/- Trees: what slices.Delete computes of one element: a row of one's own with one element less. Conditions: the place is within. -/
import Derived.Test.YtanlhpdjgelehaaR8
namespace Go.Proofs.Ytanlhpdjgelehaa
open Go.Abs
attribute [local irreducible] L Code.wp bodyPost Exit.then Exit.inBlock
set_option linter.unusedVariables false
set_option linter.unusedSimpArgs false

theorem del1 {es : List (List IV)} {i : Nat} (hi : i < es.length) : es.take i ++ ((es.drop (i + 1)).take (es.length - (i + 1)) ++ es.drop (i + (es.length - (i + 1)))) = (es.take i ++ es.drop (i + 1)) ++ es.drop (es.length - 1) := by
  rw [List.take_of_length_le (l := es.drop (i + 1)) (by simp), show i + (es.length - (i + 1)) = es.length - 1 by omega]; simp
theorem del2 {es : List (List IV)} {i : Nat} (hi : i < es.length) : ((es.take i ++ es.drop (i + 1)) ++ es.drop (es.length - 1)).take (es.length - 1) = es.take i ++ es.drop (i + 1) := by
  have : (es.take i ++ es.drop (i + 1)).length = es.length - 1 := by simp; omega
  rw [List.take_append_of_le_length (by omega), List.take_of_length_le (by omega)]

set_option maxRecDepth 100000 in
set_option maxHeartbeats 8000000 in
theorem deleteS_any (es : List (List IV)) (i : Nat) (a b : Int) (ha : a = i) (hb : b = i + 1) (hk : ∀ e ∈ es, e.length = 1) (hi : i < es.length) (h2 : 2 ≤ es.length) :
    CallA Try.prog 56 [.bsh 1000 0 es.length 1, aI a, aI b] [(1000, ⟨9, .r es.flatten 0⟩)] [(1001, ⟨9, .r (es.take i ++ es.drop (i + 1)).flatten 0⟩), (1000, ⟨9, .l []⟩)] [] (.bsh 1001 0 (es.length - 1) 1) := by
  have hfl := flatten_len es hk
  have hfne := flat_ne hk (by decide) (fun e => by rw [e] at h2; simp at h2)
  have hkr : ∀ e ∈ es.take i ++ es.drop (i + 1), e.length = 1 := len_app (mem_take_len hk) (mem_drop_len hk)
  have hlr : (es.take i ++ es.drop (i + 1)).length = es.length - 1 := by simp; omega
  have hkr2 : ∀ e ∈ (es.take i ++ es.drop (i + 1)) ++ es.drop (es.length - 1), e.length = 1 := len_app hkr (mem_drop_len hk)
  have hlr2 : ((es.take i ++ es.drop (i + 1)) ++ es.drop (es.length - 1)).length = es.length := by simp; omega
  refine CallA.intro _ Try.func56 rfl Try.ntmps56 rfl (fun w0 E0 => ?_)
  refine L.openRow 0 rfl rfl (.inl hfne) (by omega) (fun cap hc1 hc2 => ?_)
  generalize hmm : cap * 1 - es.flatten.length = mm
  have he : (a == b) = false := by simp; omega
  (repeat' (first | (refine LW.is ?_; first | ((apply s_slB3; exact rfl; exact rfl; exact rfl; exact rfl; exact rfl; omega; omega; omega; omega)) | ((apply s_slBlh; exact rfl; exact rfl; exact rfl; exact rfl; omega; omega; omega; exact rfl; exact rfl; exact rfl)) | ((apply s_clearR (j := es.length - 1); exact rfl; exact rfl; exact hkr2; omega; omega; omega; omega; exact del2 hi; exact rfl)) | (refine s_nil ?_) | (apply s_mvIv; exact rfl; exact rfl) | (apply s_mvBsl; exact rfl; exact rfl) | (apply s_asIv; exact rfl; exact rfl) | (apply s_asNil; exact rfl; exact rfl) | (apply s_asBsl; exact rfl; exact rfl) | (apply s_eqlI; exact rfl; exact rfl; exact rfl) | (apply s_lenBsl; exact rfl; exact rfl)) | (refine DR.is ?_; first | ((apply d_slBl (n' := es.length - (i + 1)); exact rfl; exact rfl; exact rfl; omega; omega; exact rfl; omega; exact rfl)) | ((apply d_slBh (n' := i); exact rfl; exact rfl; exact rfl; omega; omega; omega)) | ((apply d_roomRR (n := i) (i' := i + 1) (n' := es.length - (i + 1)) (nr := es.length - 1); exact rfl; exact rfl; exact rfl; exact rfl; exact rfl; exact .inl hfne; exact hk; exact hk; omega; omega; omega; omega; omega; omega; exact del1 hi; exact rfl; omega)) | (apply d_nil; kernel_rfl) | (apply d_mvIv; exact rfl; exact rfl) | (apply d_mvBsl; exact rfl; exact rfl) | (apply d_asBsl; exact rfl; exact rfl)) | (refine c_seq ?_) | (refine s_region ?_) | (refine d_region ?_) | (refine L.thenN ?_) | (refine L.ret ?_) | (refine L.skip ?_) | (apply c_condF; exact rfl; (first | exact rfl | assumption))))
  all_goals (apply L.renameR 6 1001 (k := 1) (n := es.length - 1); exact rfl; exact rfl; exact rfl; exact hkr; exact hlr; omega; omega)
  all_goals (apply L.ends; exact rfl; exact rfl; exact Sub.refl _; exact Wk.mk' (by intro id h; simp [keys] at h; rcases h with rfl <;> rfl) .nil (.cons rfl rfl (Subs.refl _) (.cons rfl rfl (Subs.refl _) .nil)) .nil)

set_option maxRecDepth 100000 in
set_option maxHeartbeats 8000000 in
theorem deleteS_one (es : List (List IV)) (i : Nat) (a b : Int) (ha : a = i) (hb : b = i + 1) (hk : ∀ e ∈ es, e.length = 1) (hi : i < es.length) (h2 : es.length = 1) :
    CallA Try.prog 56 [.bsh 1000 0 es.length 1, aI a, aI b] [(1000, ⟨9, .r es.flatten 0⟩)] [(1000, ⟨9, .l []⟩)] [] (.iv (.sl [])) := by
  have hfl := flatten_len es hk
  have hfne := flat_ne hk (by decide) (fun e => by rw [e] at h2; simp at h2)
  have hkr2 : ∀ e ∈ (es.take i ++ es.drop (i + 1)) ++ es.drop (es.length - 1), e.length = 1 := len_app (len_app (mem_take_len hk) (mem_drop_len hk)) (mem_drop_len hk)
  have hlr2 : ((es.take i ++ es.drop (i + 1)) ++ es.drop (es.length - 1)).length = es.length := by simp; omega
  refine CallA.intro _ Try.func56 rfl Try.ntmps56 rfl (fun w0 E0 => ?_)
  refine L.openRow 0 rfl rfl (.inl hfne) (by omega) (fun cap hc1 hc2 => ?_)
  generalize hmm : cap * 1 - es.flatten.length = mm
  have he : (a == b) = false := by simp; omega
  (repeat' (first | (refine LW.is ?_; first | ((apply s_slB3; exact rfl; exact rfl; exact rfl; exact rfl; exact rfl; omega; omega; omega; omega)) | ((apply s_slBlh (off' := 0) (n' := 1); exact rfl; exact rfl; exact rfl; exact rfl; omega; omega; omega; rfl; omega; exact rfl)) | ((apply s_clearR (j := 0) (er := []) (mr := (es.length * 1 + mm) - 0); exact rfl; exact rfl; exact hkr2; omega; omega; omega; omega; exact rfl; omega)) | (refine s_nil ?_) | (apply s_mvIv; exact rfl; exact rfl) | (apply s_mvBsl; exact rfl; exact rfl) | (apply s_asIv; exact rfl; exact rfl) | (apply s_asNil; exact rfl; exact rfl) | (apply s_asBsl; exact rfl; exact rfl) | (apply s_eqlI; exact rfl; exact rfl; exact rfl) | (apply s_lenBsl; exact rfl; exact rfl)) | (refine DR.is ?_; first | ((apply d_slBl (n' := es.length - (i + 1)); exact rfl; exact rfl; exact rfl; omega; omega; exact rfl; omega; exact rfl)) | ((apply d_slBh (n' := i); exact rfl; exact rfl; exact rfl; omega; omega; omega)) | ((apply d_roomRR (n := i) (i' := i + 1) (n' := es.length - (i + 1)) (nr := 0); exact rfl; exact rfl; exact rfl; exact rfl; exact rfl; exact .inl hfne; exact hk; exact hk; omega; omega; omega; omega; omega; omega; exact del1 hi; exact rfl; omega)) | (apply d_nil; kernel_rfl) | (apply d_mvIv; exact rfl; exact rfl) | (apply d_mvBsl; exact rfl; exact rfl) | (apply d_asBsl; exact rfl; exact rfl)) | (refine c_seq ?_) | (refine s_region ?_) | (refine d_region ?_) | (refine L.thenN ?_) | (refine L.ret ?_) | (refine L.skip ?_) | (apply c_condF; exact rfl; (first | exact rfl | assumption))))
  all_goals refine L.kill 1000 rfl (row_ne (.inr (by omega))) ?_
  all_goals (apply L.ends; exact rfl; exact rfl; exact Sub.bsl0 _ _ _; exact Wk.mk' (by intro id h; simp [keys] at h; rcases h with rfl <;> rfl) .nil (.cons rfl rfl (Subs.refl _) .nil) .nil)

set_option maxRecDepth 100000 in
set_option maxHeartbeats 8000000 in
theorem deleteP_any (es : List (List IV)) (i : Nat) (a b : Int) (ha : a = i) (hb : b = i + 1) (hk : ∀ e ∈ es, e.length = 2) (hi : i < es.length) (h2 : 2 ≤ es.length) :
    CallA Try.prog 57 [.bsh 1000 0 es.length 2, aI a, aI b] [(1000, ⟨79, .r es.flatten 0⟩)] [(1001, ⟨79, .r (es.take i ++ es.drop (i + 1)).flatten 0⟩), (1000, ⟨79, .l []⟩)] [] (.bsh 1001 0 (es.length - 1) 2) := by
  have hfl := flatten_len es hk
  have hfne := flat_ne hk (by decide) (fun e => by rw [e] at h2; simp at h2)
  have hkr : ∀ e ∈ es.take i ++ es.drop (i + 1), e.length = 2 := len_app (mem_take_len hk) (mem_drop_len hk)
  have hlr : (es.take i ++ es.drop (i + 1)).length = es.length - 1 := by simp; omega
  have hkr2 : ∀ e ∈ (es.take i ++ es.drop (i + 1)) ++ es.drop (es.length - 1), e.length = 2 := len_app hkr (mem_drop_len hk)
  have hlr2 : ((es.take i ++ es.drop (i + 1)) ++ es.drop (es.length - 1)).length = es.length := by simp; omega
  refine CallA.intro _ Try.func57 rfl Try.ntmps57 rfl (fun w0 E0 => ?_)
  refine L.openRow 0 rfl rfl (.inl hfne) (by omega) (fun cap hc1 hc2 => ?_)
  generalize hmm : cap * 2 - es.flatten.length = mm
  have he : (a == b) = false := by simp; omega
  (repeat' (first | (refine LW.is ?_; first | ((apply s_slB3; exact rfl; exact rfl; exact rfl; exact rfl; exact rfl; omega; omega; omega; omega)) | ((apply s_slBlh; exact rfl; exact rfl; exact rfl; exact rfl; omega; omega; omega; exact rfl; exact rfl; exact rfl)) | ((apply s_clearR (j := es.length - 1); exact rfl; exact rfl; exact hkr2; omega; omega; omega; omega; exact del2 hi; exact rfl)) | (refine s_nil ?_) | (apply s_mvIv; exact rfl; exact rfl) | (apply s_mvBsl; exact rfl; exact rfl) | (apply s_asIv; exact rfl; exact rfl) | (apply s_asNil; exact rfl; exact rfl) | (apply s_asBsl; exact rfl; exact rfl) | (apply s_eqlI; exact rfl; exact rfl; exact rfl) | (apply s_lenBsl; exact rfl; exact rfl)) | (refine DR.is ?_; first | ((apply d_slBl (n' := es.length - (i + 1)); exact rfl; exact rfl; exact rfl; omega; omega; exact rfl; omega; exact rfl)) | ((apply d_slBh (n' := i); exact rfl; exact rfl; exact rfl; omega; omega; omega)) | ((apply d_roomRR (n := i) (i' := i + 1) (n' := es.length - (i + 1)) (nr := es.length - 1); exact rfl; exact rfl; exact rfl; exact rfl; exact rfl; exact .inl hfne; exact hk; exact hk; omega; omega; omega; omega; omega; omega; exact del1 hi; exact rfl; omega)) | (apply d_nil; kernel_rfl) | (apply d_mvIv; exact rfl; exact rfl) | (apply d_mvBsl; exact rfl; exact rfl) | (apply d_asBsl; exact rfl; exact rfl)) | (refine c_seq ?_) | (refine s_region ?_) | (refine d_region ?_) | (refine L.thenN ?_) | (refine L.ret ?_) | (refine L.skip ?_) | (apply c_condF; exact rfl; (first | exact rfl | assumption))))
  all_goals (apply L.renameR 6 1001 (k := 2) (n := es.length - 1); exact rfl; exact rfl; exact rfl; exact hkr; exact hlr; omega; omega)
  all_goals (apply L.ends; exact rfl; exact rfl; exact Sub.refl _; exact Wk.mk' (by intro id h; simp [keys] at h; rcases h with rfl <;> rfl) .nil (.cons rfl rfl (Subs.refl _) (.cons rfl rfl (Subs.refl _) .nil)) .nil)

set_option maxRecDepth 100000 in
set_option maxHeartbeats 8000000 in
theorem deleteP_one (es : List (List IV)) (i : Nat) (a b : Int) (ha : a = i) (hb : b = i + 1) (hk : ∀ e ∈ es, e.length = 2) (hi : i < es.length) (h2 : es.length = 1) :
    CallA Try.prog 57 [.bsh 1000 0 es.length 2, aI a, aI b] [(1000, ⟨79, .r es.flatten 0⟩)] [(1000, ⟨79, .l []⟩)] [] (.iv (.sl [])) := by
  have hfl := flatten_len es hk
  have hfne := flat_ne hk (by decide) (fun e => by rw [e] at h2; simp at h2)
  have hkr2 : ∀ e ∈ (es.take i ++ es.drop (i + 1)) ++ es.drop (es.length - 1), e.length = 2 := len_app (len_app (mem_take_len hk) (mem_drop_len hk)) (mem_drop_len hk)
  have hlr2 : ((es.take i ++ es.drop (i + 1)) ++ es.drop (es.length - 1)).length = es.length := by simp; omega
  refine CallA.intro _ Try.func57 rfl Try.ntmps57 rfl (fun w0 E0 => ?_)
  refine L.openRow 0 rfl rfl (.inl hfne) (by omega) (fun cap hc1 hc2 => ?_)
  generalize hmm : cap * 2 - es.flatten.length = mm
  have he : (a == b) = false := by simp; omega
  (repeat' (first | (refine LW.is ?_; first | ((apply s_slB3; exact rfl; exact rfl; exact rfl; exact rfl; exact rfl; omega; omega; omega; omega)) | ((apply s_slBlh (off' := 0) (n' := 1); exact rfl; exact rfl; exact rfl; exact rfl; omega; omega; omega; rfl; omega; exact rfl)) | ((apply s_clearR (j := 0) (er := []) (mr := (es.length * 2 + mm) - 0); exact rfl; exact rfl; exact hkr2; omega; omega; omega; omega; exact rfl; omega)) | (refine s_nil ?_) | (apply s_mvIv; exact rfl; exact rfl) | (apply s_mvBsl; exact rfl; exact rfl) | (apply s_asIv; exact rfl; exact rfl) | (apply s_asNil; exact rfl; exact rfl) | (apply s_asBsl; exact rfl; exact rfl) | (apply s_eqlI; exact rfl; exact rfl; exact rfl) | (apply s_lenBsl; exact rfl; exact rfl)) | (refine DR.is ?_; first | ((apply d_slBl (n' := es.length - (i + 1)); exact rfl; exact rfl; exact rfl; omega; omega; exact rfl; omega; exact rfl)) | ((apply d_slBh (n' := i); exact rfl; exact rfl; exact rfl; omega; omega; omega)) | ((apply d_roomRR (n := i) (i' := i + 1) (n' := es.length - (i + 1)) (nr := 0); exact rfl; exact rfl; exact rfl; exact rfl; exact rfl; exact .inl hfne; exact hk; exact hk; omega; omega; omega; omega; omega; omega; exact del1 hi; exact rfl; omega)) | (apply d_nil; kernel_rfl) | (apply d_mvIv; exact rfl; exact rfl) | (apply d_mvBsl; exact rfl; exact rfl) | (apply d_asBsl; exact rfl; exact rfl)) | (refine c_seq ?_) | (refine s_region ?_) | (refine d_region ?_) | (refine L.thenN ?_) | (refine L.ret ?_) | (refine L.skip ?_) | (apply c_condF; exact rfl; (first | exact rfl | assumption))))
  all_goals refine L.kill 1000 rfl (row_ne (.inr (by omega))) ?_
  all_goals (apply L.ends; exact rfl; exact rfl; exact Sub.bsl0 _ _ _; exact Wk.mk' (by intro id h; simp [keys] at h; rcases h with rfl <;> rfl) .nil (.cons rfl rfl (Subs.refl _) .nil) .nil)
end Go.Proofs.Ytanlhpdjgelehaa
