/- Trees: what slices.Insert computes: a row of one's own with one element more. Conditions: the place is within; how much there is of what comes in. -/
import Derived.Test.YtanlhpdjgelehaaR7
namespace Go.Proofs.Ytanlhpdjgelehaa
open Go.Abs
attribute [local irreducible] L Code.wp bodyPost Exit.then Exit.inBlock
set_option linter.unusedVariables false
set_option linter.unusedSimpArgs false

theorem flat_ne {k : Nat} {es : List (List IV)} (hk : ∀ e ∈ es, e.length = k) (h0 : 0 < k) (hne : es ≠ []) : es.flatten ≠ [] := fun e => by
  have := flatten_len es hk
  rw [e] at this
  have hp : 0 < es.length := List.length_pos_iff.2 hne
  have : 0 < es.length * k := Nat.mul_pos hp h0
  simp at *; omega
theorem mem_ins {k i : Nat} {es : List (List IV)} {v : List IV} (hk : ∀ e ∈ es, e.length = k) (hv : v.length = k) : ∀ e ∈ es.take i ++ v :: es.drop i, e.length = k := fun e he => by
  rcases List.mem_append.1 he with h | h
  · exact hk e (List.mem_of_mem_take h)
  · rcases List.mem_cons.1 h with rfl | h
    · exact hv
    · exact hk e (List.mem_of_mem_drop h)
theorem len_ins {i : Nat} {es : List (List IV)} {v : List IV} (hi : i ≤ es.length) : (es.take i ++ v :: es.drop i).length = es.length + 1 := by
  simp; omega
/-- the parts of an insertion -/
theorem take1 (v : List IV) : ([v].drop 0).take 1 = [v] := rfl
theorem ins1 {es : List (List IV)} {v : List IV} {i : Nat} (hi : i ≤ es.length) : (es.take i).take i ++ (([v].drop 0).take 1 ++ (es.take i).drop (i + 1)) = es.take i ++ [v] := by
  rw [take1, List.take_take, Nat.min_self, @List.drop_eq_nil_of_le _ (es.take i) _ (by simp; omega)]; simp
theorem ins2 {es : List (List IV)} {v : List IV} {i : Nat} (hi : i ≤ es.length) : (es.take i ++ [v]).take (i + 1) ++ ((es.drop i).take (es.length - i) ++ (es.take i ++ [v]).drop (i + 1 + (es.length - i))) = es.take i ++ v :: es.drop i := by
  rw [List.take_of_length_le (l := es.take i ++ [v]) (by simp; omega), @List.drop_eq_nil_of_le _ (es.take i ++ [v]) _ (by simp; omega), List.take_of_length_le (l := es.drop i) (by simp)]; simp
theorem ins3 {es : List (List IV)} {i : Nat} (hi : i ≤ es.length) : es.take (i + 1) ++ ((es.drop i).take (es.length - i) ++ es.drop (i + 1 + (es.length - i))) = es.take (i + 1) ++ es.drop i := by
  rw [@List.drop_eq_nil_of_le _ es (i + 1 + (es.length - i)) (by omega), List.take_of_length_le (l := es.drop i) (by simp)]; simp
theorem ins4 {es : List (List IV)} {v : List IV} {i : Nat} (hi : i < es.length) : (es.take (i + 1) ++ es.drop i).take i ++ (([v].drop 0).take 1 ++ (es.take (i + 1) ++ es.drop i).drop (i + 1)) = es.take i ++ v :: es.drop i := by
  have hl : (es.take (i + 1)).length = i + 1 := by simp; omega
  rw [take1, List.take_append_of_le_length (by omega), List.take_take, Nat.min_eq_left (by omega), List.drop_append_of_le_length (by omega), @List.drop_eq_nil_of_le _ (es.take (i + 1)) _ (by omega)]
  simp
theorem ins5 {es : List (List IV)} {v : List IV} : es.take es.length ++ (([v].drop 0).take 1 ++ es.drop (es.length + 1)) = es.take es.length ++ v :: es.drop es.length := by
  rw [take1, @List.drop_eq_nil_of_le _ es (es.length + 1) (by omega)]; simp
theorem ins6 {es : List (List IV)} {v : List IV} : es.take es.length ++ ([v].drop 0).take 1 = es.take es.length ++ v :: es.drop es.length := by simp

set_option maxRecDepth 100000 in
set_option maxHeartbeats 8000000 in
theorem insertS_any (es : List (List IV)) (v : List IV) (i : Nat) (hk : ∀ e ∈ es, e.length = 1) (hv : v.length = 1) (hne : es ≠ []) (hi : i ≤ es.length) (hm : es.length + 1 ≤ maxLen) (hl : (es.length + 1) * 16 ≤ 140737488355328) :
    CallA Try.prog 53 [.bsh 1000 0 es.length 1, aI (i : Int), .bsl 1001 0 1 1] [(1000, ⟨9, .r es.flatten 0⟩), (1001, ⟨9, .r [v].flatten 0⟩)] [(1002, ⟨9, .r (es.take i ++ v :: es.drop i).flatten 0⟩), (1000, ⟨9, .l []⟩), (1001, ⟨9, .l []⟩)] [] (.bsh 1002 0 (es.length + 1) 1) := by
  have hfl := flatten_len es hk
  have hpos : 0 < es.length := List.length_pos_iff.2 hne
  have hfne := flat_ne hk (by decide) hne
  have hkv : ∀ e ∈ [v], e.length = 1 := by simpa using hv
  have hvl : [v].flatten.length = 1 := by simpa using hv
  have hki := mem_ins (i := i) hk hv
  have hli := len_ins (v := v) hi
  have hkt : ∀ e ∈ es.take i, e.length = 1 := mem_take_len hk
  have hlt : (es.take i).length = i := by simp; omega
  have hft := flatten_len _ hkt
  have hk1 : ∀ e ∈ es.take i ++ [v], e.length = 1 := len_app hkt hkv
  have hl1 : (es.take i ++ [v]).length = i + 1 := by simp; omega
  have hk3 : ∀ e ∈ es.take (i + 1) ++ es.drop i, e.length = 1 := len_app (mem_take_len hk) (mem_drop_len hk)
  have h1v : [v].length = 1 := rfl
  have hl3 : i < es.length → (es.take (i + 1) ++ es.drop i).length = es.length + 1 := fun h => by simp; omega
  refine CallA.intro _ Try.func53 rfl Try.ntmps53 rfl (fun w0 E0 => ?_)
  refine L.openRow 0 rfl rfl (.inl hfne) (by omega) (fun cap hc1 hc2 => ?_)
  generalize hmm : cap * 1 - es.flatten.length = mm
  have hz : (((1 : Nat) : Int) == 0) = false := rfl
  by_cases hin : i = es.length
  · have hb : (((i : Nat) : Int) == ((es.length : Nat) : Int)) = true := by simp [hin]
    subst hin
    by_cases hroom : es.length + 1 ≤ cap
    · (repeat' (first | (refine LW.is ?_; first | ((apply s_slBl; exact rfl; exact rfl; exact rfl; omega; omega; exact rfl; exact rfl; exact rfl)) | ((apply s_roomRR (i' := 0); exact rfl; exact rfl; exact rfl; exact rfl; exact rfl; exact .inl hfne; exact hk; exact hkv; exact rfl; exact Nat.le_refl 1; omega; exact hroom; exact Nat.le_refl _; omega; exact ins5; exact rfl; exact rfl)) | (refine s_nil ?_) | (apply s_mvIv; exact rfl; exact rfl) | (apply s_mvBsl; exact rfl; exact rfl) | (apply s_asIv; exact rfl; exact rfl) | (apply s_asNil; exact rfl; exact rfl) | (apply s_asBsl; exact rfl; exact rfl) | (apply s_eqlI; exact rfl; exact rfl; exact rfl) | (apply s_lenBsl; exact rfl; exact rfl)) | (refine c_seq ?_) | (refine s_region ?_) | (refine L.thenN ?_) | (refine L.thenR ?_) | (refine L.ret ?_) | (refine L.skip ?_) | (apply c_condT; exact rfl; (first | exact rfl | assumption)) | (apply c_condF; exact rfl; (first | exact rfl | assumption))))
      all_goals (apply L.renameR 6 1002 (k := 1) (n := es.length + 1); exact rfl; exact rfl; exact rfl; exact hki; exact hli; omega; omega)
      all_goals refine L.kill 1001 rfl (row_ne (.inl (flat_ne hkv (by decide) (by simp)))) ?_
      all_goals (apply L.ends; exact rfl; exact rfl; exact Sub.refl _; exact Wk.mk' (by intro id h; simp [keys] at h; rcases h with rfl | rfl <;> rfl) .nil (.cons rfl rfl (Subs.refl _) (.cons rfl rfl (Subs.refl _) (.cons rfl rfl (Subs.refl _) .nil))) .nil)
    · (repeat' (first | (refine LW.is ?_; first | ((apply s_slBl; exact rfl; exact rfl; exact rfl; omega; omega; exact rfl; exact rfl; exact rfl)) | ((apply s_growRR 1002 (i' := 0); exact rfl; exact rfl; exact rfl; exact rfl; exact rfl; exact hk; exact hkv; exact rfl; exact Nat.one_pos; exact Nat.le_refl 1; exact Nat.le_refl _; omega; exact hm; exact hl; exact rfl; exact ins6; exact rfl)) | (refine s_nil ?_) | (apply s_mvIv; exact rfl; exact rfl) | (apply s_mvBsl; exact rfl; exact rfl) | (apply s_asIv; exact rfl; exact rfl) | (apply s_asNil; exact rfl; exact rfl) | (apply s_asBsh; exact rfl; exact rfl) | (apply s_eqlI; exact rfl; exact rfl; exact rfl) | (apply s_lenBsl; exact rfl; exact rfl)) | (refine c_seq ?_) | (refine s_region ?_) | (refine L.thenN ?_) | (refine L.thenR ?_) | (refine L.ret ?_) | (refine L.skip ?_) | (apply c_condT; exact rfl; (first | exact rfl | assumption)) | (apply c_condF; exact rfl; (first | exact rfl | assumption))))
      all_goals refine L.kill 1000 rfl (row_ne (.inl hfne)) ?_
      all_goals refine L.kill 1001 rfl (row_ne (.inl (flat_ne hkv (by decide) (by simp)))) ?_
      all_goals (apply L.ends; exact rfl; exact rfl; exact Sub.refl _; exact Wk.mk' (by intro id h; simp [keys] at h; rcases h with rfl | rfl <;> rfl) .nil (.cons rfl rfl (Subs.refl _) (.cons rfl rfl (Subs.refl _) (.cons rfl rfl (Subs.refl _) .nil))) .nil)
  · have hb : (((i : Nat) : Int) == ((es.length : Nat) : Int)) = false := by simp; omega
    have hilt : i < es.length := by omega
    have hl3 := hl3 hilt
    by_cases hroom : es.length + 1 ≤ cap
    · have hb2 : decide ((cap : Int) < (es.length : Int) + ((1 : Nat) : Int)) = false := by simp; omega
      (repeat' (first | (refine LW.is ?_; first | ((apply s_slBl; exact rfl; exact rfl; exact rfl; omega; omega; exact rfl; exact rfl; exact rfl)) | ((apply s_slBh; exact rfl; exact rfl; exact rfl; omega; omega; exact rfl)) | ((apply s_overlapsR; exact rfl; exact rfl; exact rfl; exact rfl; exact rfl; exact rfl; decide; omega; exact hfne)) | ((apply s_copyRR (es := es.take (i + 1) ++ es.drop i) (es' := [v]) (i := i) (i' := 0) (cnt := 1) (er := es.take i ++ v :: es.drop i); exact rfl; exact rfl; exact rfl; exact rfl; exact rfl; exact hk3; exact hkv; decide; omega; exact rfl; (show min _ _ = _; omega); decide; omega; omega; (simp; omega); (simp; omega); exact ins4 hilt; exact rfl)) | (refine s_nil ?_) | (apply s_mvIv; exact rfl; exact rfl) | (apply s_mvBsl; exact rfl; exact rfl) | (apply s_asIv; exact rfl; exact rfl) | (apply s_asNil; exact rfl; exact rfl) | (apply s_asBsl; exact rfl; exact rfl) | (apply s_eqlI; exact rfl; exact rfl; exact rfl) | (apply s_gtrI; exact rfl; exact rfl; exact rfl) | (apply s_not; exact rfl; exact rfl) | (apply s_addI; exact rfl; exact rfl; exact rfl; (first | omega | decide | (dsimp only; omega)); (first | omega | decide | (dsimp only; omega))) | (apply s_lenBsl; exact rfl; exact rfl) | (apply s_capBsl; exact rfl; exact rfl)) | (refine DR.is ?_; first | ((apply d_slBl; exact rfl; exact rfl; exact rfl; omega; omega; exact rfl; exact rfl; exact rfl)) | ((apply d_copyRR (es := es) (es' := es) (i := i + 1) (i' := i) (cnt := es.length - i) (er := es.take (i + 1) ++ es.drop i); exact rfl; exact rfl; exact rfl; exact rfl; exact rfl; exact hk; exact hk; decide; omega; omega; (show min _ _ = _; omega); omega; omega; omega; omega; omega; exact ins3 hi; exact rfl)) | (apply d_nil; kernel_rfl) | (apply d_mvIv; exact rfl; exact rfl) | (apply d_mvBsl; exact rfl; exact rfl) | (apply d_addI; exact rfl; exact rfl; exact rfl; (first | omega | decide | (dsimp only; omega)); (first | omega | decide | (dsimp only; omega)))) | (refine c_seq ?_) | (refine s_region ?_) | (refine d_region ?_) | (refine L.thenN ?_) | (refine L.thenR ?_) | (refine L.ret ?_) | (refine L.skip ?_) | (apply c_condT; exact rfl; (first | exact rfl | assumption)) | (apply c_condF; exact rfl; (first | exact rfl | assumption))))
      all_goals (apply L.renameR 6 1002 (k := 1) (n := es.length + 1); exact rfl; exact rfl; exact rfl; exact hki; exact hli; omega; omega)
      all_goals refine L.kill 1001 rfl (row_ne (.inl (flat_ne hkv (by decide) (by simp)))) ?_
      all_goals (apply L.ends; exact rfl; exact rfl; exact Sub.refl _; exact Wk.mk' (by intro id h; simp [keys] at h; rcases h with rfl | rfl <;> rfl) .nil (.cons rfl rfl (Subs.refl _) (.cons rfl rfl (Subs.refl _) (.cons rfl rfl (Subs.refl _) .nil))) .nil)
    · have hb2 : decide ((cap : Int) < (es.length : Int) + ((1 : Nat) : Int)) = true := by simp; omega
      (repeat' (first | ((refine L.openRow 9 (id := 2000) (n := es.length + 1) (k := 1) (ty := 9) (xs := (es.take i).flatten) (m := (es.length + 1 - i) * 1) rfl rfl (.inr (by omega)) (by omega) (fun cap2 hd1 hd2 => ?_))) | (refine LW.is ?_; first | ((apply s_slBl; exact rfl; exact rfl; exact rfl; omega; omega; exact rfl; exact rfl; exact rfl)) | ((apply s_slBh; exact rfl; exact rfl; exact rfl; omega; omega; exact rfl)) | ((apply s_growRZ 2000 (n := i) (m := es.length + 1 - i) (nr := es.length + 1); exact rfl; exact rfl; exact rfl; omega; exact rfl; exact hk; omega; omega; omega; omega; omega; exact rfl; exact rfl; omega; exact rfl)) | ((apply s_copyRR (es := es.take i) (es' := [v]) (i := i) (i' := 0) (cnt := 1) (er := es.take i ++ [v]); exact rfl; exact rfl; exact rfl; exact rfl; exact rfl; exact hkt; exact hkv; decide; omega; exact rfl; (show min _ _ = _; omega); decide; omega; omega; omega; omega; exact ins1 hi; exact rfl)) | (refine s_nil ?_) | (apply s_mvIv; exact rfl; exact rfl) | (apply s_mvBsl; exact rfl; exact rfl) | (apply s_asIv; exact rfl; exact rfl) | (apply s_asNil; exact rfl; exact rfl) | (apply s_asBsl; exact rfl; exact rfl) | (apply s_asBsh; exact rfl; exact rfl) | (apply s_eqlI; exact rfl; exact rfl; exact rfl) | (apply s_gtrI; exact rfl; exact rfl; exact rfl) | (apply s_addI; exact rfl; exact rfl; exact rfl; (first | omega | decide | (dsimp only; omega)); (first | omega | decide | (dsimp only; omega))) | (apply s_subI; exact rfl; exact rfl; exact rfl; (first | omega | decide | (dsimp only; omega)); (first | omega | decide | (dsimp only; omega))) | (apply s_lenBsl; exact rfl; exact rfl) | (apply s_capBsl; exact rfl; exact rfl)) | (refine DR.is ?_; first | ((apply d_slBl; exact rfl; exact rfl; exact rfl; omega; omega; exact rfl; exact rfl; exact rfl)) | ((apply d_copyRR (es := es.take i ++ [v]) (es' := es) (i := i + 1) (i' := i) (cnt := es.length - i) (er := es.take i ++ v :: es.drop i); exact rfl; exact rfl; exact rfl; exact rfl; exact rfl; exact hk1; exact hk; decide; omega; omega; (show min _ _ = _; omega); omega; omega; omega; omega; omega; exact ins2 hi; exact rfl)) | (apply d_nil; kernel_rfl) | (apply d_mvIv; exact rfl; exact rfl) | (apply d_mvBsl; exact rfl; exact rfl) | (apply d_addI; exact rfl; exact rfl; exact rfl; (first | omega | decide | (dsimp only; omega)); (first | omega | decide | (dsimp only; omega)))) | (refine c_seq ?_) | (refine s_region ?_) | (refine d_region ?_) | (refine L.thenN ?_) | (refine L.thenR ?_) | (refine L.ret ?_) | (refine L.skip ?_) | (apply c_condT; exact rfl; (first | exact rfl | assumption)) | (apply c_condF; exact rfl; (first | exact rfl | assumption))))
      all_goals (apply L.renameR 6 1002 (k := 1) (n := es.length + 1); exact rfl; exact rfl; exact rfl; exact hki; exact hli; omega; omega)
      all_goals refine L.kill 1000 rfl (row_ne (.inl hfne)) ?_
      all_goals refine L.kill 1001 rfl (row_ne (.inl (flat_ne hkv (by decide) (by simp)))) ?_
      all_goals (apply L.ends; exact rfl; exact rfl; exact Sub.refl _; exact Wk.mk' (by intro id h; simp [keys] at h; rcases h with rfl | rfl <;> rfl) .nil (.cons rfl rfl (Subs.refl _) (.cons rfl rfl (Subs.refl _) (.cons rfl rfl (Subs.refl _) .nil))) .nil)

set_option maxRecDepth 100000 in
set_option maxHeartbeats 8000000 in
theorem insertP_any (es : List (List IV)) (v : List IV) (i : Nat) (hk : ∀ e ∈ es, e.length = 2) (hv : v.length = 2) (hne : es ≠ []) (hi : i ≤ es.length) (hm : es.length + 1 ≤ maxLen) (hl : (es.length + 1) * 48 ≤ 140737488355328) :
    CallA Try.prog 55 [.bsh 1000 0 es.length 2, aI (i : Int), .bsl 1001 0 1 1] [(1000, ⟨79, .r es.flatten 0⟩), (1001, ⟨79, .r [v].flatten 0⟩)] [(1002, ⟨79, .r (es.take i ++ v :: es.drop i).flatten 0⟩), (1000, ⟨79, .l []⟩), (1001, ⟨79, .l []⟩)] [] (.bsh 1002 0 (es.length + 1) 2) := by
  have hfl := flatten_len es hk
  have hpos : 0 < es.length := List.length_pos_iff.2 hne
  have hfne := flat_ne hk (by decide) hne
  have hkv : ∀ e ∈ [v], e.length = 2 := by simpa using hv
  have hvl : [v].flatten.length = 2 := by simpa using hv
  have hki := mem_ins (i := i) hk hv
  have hli := len_ins (v := v) hi
  have hkt : ∀ e ∈ es.take i, e.length = 2 := mem_take_len hk
  have hlt : (es.take i).length = i := by simp; omega
  have hft := flatten_len _ hkt
  have hk1 : ∀ e ∈ es.take i ++ [v], e.length = 2 := len_app hkt hkv
  have hl1 : (es.take i ++ [v]).length = i + 1 := by simp; omega
  have hk3 : ∀ e ∈ es.take (i + 1) ++ es.drop i, e.length = 2 := len_app (mem_take_len hk) (mem_drop_len hk)
  have h1v : [v].length = 1 := rfl
  have hl3 : i < es.length → (es.take (i + 1) ++ es.drop i).length = es.length + 1 := fun h => by simp; omega
  refine CallA.intro _ Try.func55 rfl Try.ntmps55 rfl (fun w0 E0 => ?_)
  refine L.openRow 0 rfl rfl (.inl hfne) (by omega) (fun cap hc1 hc2 => ?_)
  generalize hmm : cap * 2 - es.flatten.length = mm
  have hz : (((1 : Nat) : Int) == 0) = false := rfl
  by_cases hin : i = es.length
  · have hb : (((i : Nat) : Int) == ((es.length : Nat) : Int)) = true := by simp [hin]
    subst hin
    by_cases hroom : es.length + 1 ≤ cap
    · (repeat' (first | (refine LW.is ?_; first | ((apply s_slBl; exact rfl; exact rfl; exact rfl; omega; omega; exact rfl; exact rfl; exact rfl)) | ((apply s_roomRR (i' := 0); exact rfl; exact rfl; exact rfl; exact rfl; exact rfl; exact .inl hfne; exact hk; exact hkv; exact rfl; exact Nat.le_refl 1; omega; exact hroom; exact Nat.le_refl _; omega; exact ins5; exact rfl; exact rfl)) | (refine s_nil ?_) | (apply s_mvIv; exact rfl; exact rfl) | (apply s_mvBsl; exact rfl; exact rfl) | (apply s_asIv; exact rfl; exact rfl) | (apply s_asNil; exact rfl; exact rfl) | (apply s_asBsl; exact rfl; exact rfl) | (apply s_eqlI; exact rfl; exact rfl; exact rfl) | (apply s_lenBsl; exact rfl; exact rfl)) | (refine c_seq ?_) | (refine s_region ?_) | (refine L.thenN ?_) | (refine L.thenR ?_) | (refine L.ret ?_) | (refine L.skip ?_) | (apply c_condT; exact rfl; (first | exact rfl | assumption)) | (apply c_condF; exact rfl; (first | exact rfl | assumption))))
      all_goals (apply L.renameR 6 1002 (k := 2) (n := es.length + 1); exact rfl; exact rfl; exact rfl; exact hki; exact hli; omega; omega)
      all_goals refine L.kill 1001 rfl (row_ne (.inl (flat_ne hkv (by decide) (by simp)))) ?_
      all_goals (apply L.ends; exact rfl; exact rfl; exact Sub.refl _; exact Wk.mk' (by intro id h; simp [keys] at h; rcases h with rfl | rfl <;> rfl) .nil (.cons rfl rfl (Subs.refl _) (.cons rfl rfl (Subs.refl _) (.cons rfl rfl (Subs.refl _) .nil))) .nil)
    · (repeat' (first | (refine LW.is ?_; first | ((apply s_slBl; exact rfl; exact rfl; exact rfl; omega; omega; exact rfl; exact rfl; exact rfl)) | ((apply s_growRR 1002 (i' := 0); exact rfl; exact rfl; exact rfl; exact rfl; exact rfl; exact hk; exact hkv; exact rfl; exact Nat.one_pos; exact Nat.le_refl 1; exact Nat.le_refl _; omega; exact hm; exact hl; exact rfl; exact ins6; exact rfl)) | (refine s_nil ?_) | (apply s_mvIv; exact rfl; exact rfl) | (apply s_mvBsl; exact rfl; exact rfl) | (apply s_asIv; exact rfl; exact rfl) | (apply s_asNil; exact rfl; exact rfl) | (apply s_asBsh; exact rfl; exact rfl) | (apply s_eqlI; exact rfl; exact rfl; exact rfl) | (apply s_lenBsl; exact rfl; exact rfl)) | (refine c_seq ?_) | (refine s_region ?_) | (refine L.thenN ?_) | (refine L.thenR ?_) | (refine L.ret ?_) | (refine L.skip ?_) | (apply c_condT; exact rfl; (first | exact rfl | assumption)) | (apply c_condF; exact rfl; (first | exact rfl | assumption))))
      all_goals refine L.kill 1000 rfl (row_ne (.inl hfne)) ?_
      all_goals refine L.kill 1001 rfl (row_ne (.inl (flat_ne hkv (by decide) (by simp)))) ?_
      all_goals (apply L.ends; exact rfl; exact rfl; exact Sub.refl _; exact Wk.mk' (by intro id h; simp [keys] at h; rcases h with rfl | rfl <;> rfl) .nil (.cons rfl rfl (Subs.refl _) (.cons rfl rfl (Subs.refl _) (.cons rfl rfl (Subs.refl _) .nil))) .nil)
  · have hb : (((i : Nat) : Int) == ((es.length : Nat) : Int)) = false := by simp; omega
    have hilt : i < es.length := by omega
    have hl3 := hl3 hilt
    by_cases hroom : es.length + 1 ≤ cap
    · have hb2 : decide ((cap : Int) < (es.length : Int) + ((1 : Nat) : Int)) = false := by simp; omega
      (repeat' (first | (refine LW.is ?_; first | ((apply s_slBl; exact rfl; exact rfl; exact rfl; omega; omega; exact rfl; exact rfl; exact rfl)) | ((apply s_slBh; exact rfl; exact rfl; exact rfl; omega; omega; exact rfl)) | ((apply s_overlapsR; exact rfl; exact rfl; exact rfl; exact rfl; exact rfl; exact rfl; decide; omega; exact hfne)) | ((apply s_copyRR (es := es.take (i + 1) ++ es.drop i) (es' := [v]) (i := i) (i' := 0) (cnt := 1) (er := es.take i ++ v :: es.drop i); exact rfl; exact rfl; exact rfl; exact rfl; exact rfl; exact hk3; exact hkv; decide; omega; exact rfl; (show min _ _ = _; omega); decide; omega; omega; (simp; omega); (simp; omega); exact ins4 hilt; exact rfl)) | (refine s_nil ?_) | (apply s_mvIv; exact rfl; exact rfl) | (apply s_mvBsl; exact rfl; exact rfl) | (apply s_asIv; exact rfl; exact rfl) | (apply s_asNil; exact rfl; exact rfl) | (apply s_asBsl; exact rfl; exact rfl) | (apply s_eqlI; exact rfl; exact rfl; exact rfl) | (apply s_gtrI; exact rfl; exact rfl; exact rfl) | (apply s_not; exact rfl; exact rfl) | (apply s_addI; exact rfl; exact rfl; exact rfl; (first | omega | decide | (dsimp only; omega)); (first | omega | decide | (dsimp only; omega))) | (apply s_lenBsl; exact rfl; exact rfl) | (apply s_capBsl; exact rfl; exact rfl)) | (refine DR.is ?_; first | ((apply d_slBl; exact rfl; exact rfl; exact rfl; omega; omega; exact rfl; exact rfl; exact rfl)) | ((apply d_copyRR (es := es) (es' := es) (i := i + 1) (i' := i) (cnt := es.length - i) (er := es.take (i + 1) ++ es.drop i); exact rfl; exact rfl; exact rfl; exact rfl; exact rfl; exact hk; exact hk; decide; omega; omega; (show min _ _ = _; omega); omega; omega; omega; omega; omega; exact ins3 hi; exact rfl)) | (apply d_nil; kernel_rfl) | (apply d_mvIv; exact rfl; exact rfl) | (apply d_mvBsl; exact rfl; exact rfl) | (apply d_addI; exact rfl; exact rfl; exact rfl; (first | omega | decide | (dsimp only; omega)); (first | omega | decide | (dsimp only; omega)))) | (refine c_seq ?_) | (refine s_region ?_) | (refine d_region ?_) | (refine L.thenN ?_) | (refine L.thenR ?_) | (refine L.ret ?_) | (refine L.skip ?_) | (apply c_condT; exact rfl; (first | exact rfl | assumption)) | (apply c_condF; exact rfl; (first | exact rfl | assumption))))
      all_goals (apply L.renameR 6 1002 (k := 2) (n := es.length + 1); exact rfl; exact rfl; exact rfl; exact hki; exact hli; omega; omega)
      all_goals refine L.kill 1001 rfl (row_ne (.inl (flat_ne hkv (by decide) (by simp)))) ?_
      all_goals (apply L.ends; exact rfl; exact rfl; exact Sub.refl _; exact Wk.mk' (by intro id h; simp [keys] at h; rcases h with rfl | rfl <;> rfl) .nil (.cons rfl rfl (Subs.refl _) (.cons rfl rfl (Subs.refl _) (.cons rfl rfl (Subs.refl _) .nil))) .nil)
    · have hb2 : decide ((cap : Int) < (es.length : Int) + ((1 : Nat) : Int)) = true := by simp; omega
      (repeat' (first | ((refine L.openRow 9 (id := 2000) (n := es.length + 1) (k := 2) (ty := 79) (xs := (es.take i).flatten) (m := (es.length + 1 - i) * 2) rfl rfl (.inr (by omega)) (by omega) (fun cap2 hd1 hd2 => ?_))) | (refine LW.is ?_; first | ((apply s_slBl; exact rfl; exact rfl; exact rfl; omega; omega; exact rfl; exact rfl; exact rfl)) | ((apply s_slBh; exact rfl; exact rfl; exact rfl; omega; omega; exact rfl)) | ((apply s_growRZ 2000 (n := i) (m := es.length + 1 - i) (nr := es.length + 1); exact rfl; exact rfl; exact rfl; omega; exact rfl; exact hk; omega; omega; omega; omega; omega; exact rfl; exact rfl; omega; exact rfl)) | ((apply s_copyRR (es := es.take i) (es' := [v]) (i := i) (i' := 0) (cnt := 1) (er := es.take i ++ [v]); exact rfl; exact rfl; exact rfl; exact rfl; exact rfl; exact hkt; exact hkv; decide; omega; exact rfl; (show min _ _ = _; omega); decide; omega; omega; omega; omega; exact ins1 hi; exact rfl)) | (refine s_nil ?_) | (apply s_mvIv; exact rfl; exact rfl) | (apply s_mvBsl; exact rfl; exact rfl) | (apply s_asIv; exact rfl; exact rfl) | (apply s_asNil; exact rfl; exact rfl) | (apply s_asBsl; exact rfl; exact rfl) | (apply s_asBsh; exact rfl; exact rfl) | (apply s_eqlI; exact rfl; exact rfl; exact rfl) | (apply s_gtrI; exact rfl; exact rfl; exact rfl) | (apply s_addI; exact rfl; exact rfl; exact rfl; (first | omega | decide | (dsimp only; omega)); (first | omega | decide | (dsimp only; omega))) | (apply s_subI; exact rfl; exact rfl; exact rfl; (first | omega | decide | (dsimp only; omega)); (first | omega | decide | (dsimp only; omega))) | (apply s_lenBsl; exact rfl; exact rfl) | (apply s_capBsl; exact rfl; exact rfl)) | (refine DR.is ?_; first | ((apply d_slBl; exact rfl; exact rfl; exact rfl; omega; omega; exact rfl; exact rfl; exact rfl)) | ((apply d_copyRR (es := es.take i ++ [v]) (es' := es) (i := i + 1) (i' := i) (cnt := es.length - i) (er := es.take i ++ v :: es.drop i); exact rfl; exact rfl; exact rfl; exact rfl; exact rfl; exact hk1; exact hk; decide; omega; omega; (show min _ _ = _; omega); omega; omega; omega; omega; omega; exact ins2 hi; exact rfl)) | (apply d_nil; kernel_rfl) | (apply d_mvIv; exact rfl; exact rfl) | (apply d_mvBsl; exact rfl; exact rfl) | (apply d_addI; exact rfl; exact rfl; exact rfl; (first | omega | decide | (dsimp only; omega)); (first | omega | decide | (dsimp only; omega)))) | (refine c_seq ?_) | (refine s_region ?_) | (refine d_region ?_) | (refine L.thenN ?_) | (refine L.thenR ?_) | (refine L.ret ?_) | (refine L.skip ?_) | (apply c_condT; exact rfl; (first | exact rfl | assumption)) | (apply c_condF; exact rfl; (first | exact rfl | assumption))))
      all_goals (apply L.renameR 6 1002 (k := 2) (n := es.length + 1); exact rfl; exact rfl; exact rfl; exact hki; exact hli; omega; omega)
      all_goals refine L.kill 1000 rfl (row_ne (.inl hfne)) ?_
      all_goals refine L.kill 1001 rfl (row_ne (.inl (flat_ne hkv (by decide) (by simp)))) ?_
      all_goals (apply L.ends; exact rfl; exact rfl; exact Sub.refl _; exact Wk.mk' (by intro id h; simp [keys] at h; rcases h with rfl | rfl <;> rfl) .nil (.cons rfl rfl (Subs.refl _) (.cons rfl rfl (Subs.refl _) (.cons rfl rfl (Subs.refl _) .nil))) .nil)
end Go.Proofs.Ytanlhpdjgelehaa
