/- Trees: where a key is, by halving: what BinarySearch and place compute. Conditions: the keys rise; how much there is of what comes in. -/
import Derived.Test.YtanlhpdjgelehaaR2
namespace Go.Proofs.Ytanlhpdjgelehaa
open Go.Abs
attribute [local irreducible] L Code.wp bodyPost Exit.then Exit.inBlock
set_option linter.unusedVariables false
set_option linter.unusedSimpArgs false

/-- how many, from the front on, fulfil p -/
def pre {α : Type} (p : α → Bool) : List α → Nat
  | [] => 0
  | x :: l => if p x then pre p l + 1 else 0
/-- once it is not so, it is never so again -/
def Falls {α : Type} (p : α → Bool) (l : List α) : Prop := ∀ (i j : Nat) (x y : α), i ≤ j → l[i]? = some x → l[j]? = some y → p y = true → p x = true
theorem pre_le {α : Type} (p : α → Bool) : ∀ l : List α, pre p l ≤ l.length
  | [] => Nat.le_refl _
  | x :: l => by
    have := pre_le p l
    simp only [pre, List.length_cons]; split <;> omega
theorem pre_lt {α : Type} {p : α → Bool} : ∀ {l : List α} {i : Nat} {x : α}, l[i]? = some x → i < pre p l → p x = true
  | [], i, x, h, _ => by simp at h
  | y :: l, 0, x, h, hi => by
    simp at h; subst h
    simp only [pre] at hi
    split at hi
    · assumption
    · omega
  | y :: l, i + 1, x, h, hi => by
    simp only [pre] at hi
    split at hi
    · exact pre_lt (l := l) (by simpa using h) (by omega)
    · omega
theorem pre_at {α : Type} {p : α → Bool} : ∀ {l : List α} {x : α}, l[pre p l]? = some x → p x = false
  | [], x, h => by simp at h
  | y :: l, x, h => by
    simp only [pre] at h
    split at h
    · exact pre_at (l := l) (by simpa using h)
    · rename_i hp; simp at h; subst h; simpa using hp
theorem Falls.le {α : Type} {p : α → Bool} {l : List α} (hf : Falls p l) {i : Nat} {x : α} (h : l[i]? = some x) (hp : p x = true) : i < pre p l := by
  refine Nat.lt_of_not_le (fun hle => ?_)
  have hlt := (List.getElem?_eq_some_iff.1 h).1
  obtain ⟨y, hy⟩ : ∃ y, l[pre p l]? = some y := ⟨_, List.getElem?_eq_getElem (by omega)⟩
  have := hf _ _ y x hle hy h hp
  rw [pre_at hy] at this; cases this
theorem Falls.ge {α : Type} {p : α → Bool} {l : List α} {i : Nat} {x : α} (h : l[i]? = some x) (hp : p x = false) : pre p l ≤ i := by
  refine Nat.le_of_not_lt (fun hlt => ?_)
  rw [pre_lt h hlt] at hp; cases hp

def lbM (ks : List Str) (key : Str) : Nat := pre (fun s => decide (s < key)) ks
def foundM (ks : List Str) (key : Str) : Bool := ks[lbM ks key]? == some key
theorem half (i j : Nat) (h : i + j < 4611686018427387904) : IntKind.i64.wrap ((IntKind.u64.wrap ((i : Int) + (j : Int))).fdiv (2 ^ min (Int.toNat 1) IntKind.u64.bits)) = (((i + j) / 2 : Nat) : Int) := by
  have h1 : IntKind.u64.wrap ((i : Int) + (j : Int)) = (i : Int) + j := by rw [IntKind.wrap_u64]; omega
  rw [h1]
  have h2 : ((i : Int) + (j : Int)).fdiv (2 ^ min (Int.toNat 1) IntKind.u64.bits) = ((i : Int) + j) / 2 := Int.fdiv_eq_ediv_of_nonneg _ (by decide)
  rw [h2, IntKind.wrap_i64]
  omega

set_option maxRecDepth 100000 in
set_option maxHeartbeats 4000000 in
theorem bsearch_any (ks : List Str) (key : Str) (hl : ks.length ≤ 140737488355328) (hf : Falls (fun s => decide (s < key)) ks) :
    CallA Try.prog 62 [.iv (.sl (ks.map Str.c)), aS key] [] [] [] (.tup [.iv (I (lbM ks key : Int)), .iv (B (foundM ks key))]) := by
  refine CallA.intro _ Try.func62 rfl Try.ntmps62 rfl (fun w0 E0 => ?_)
  have hle := pre_le (fun s => decide (s < key)) ks
  (repeat' (first | (refine LW.is ?_; first | (refine s_nil ?_) | (apply s_mvIv; exact rfl; exact rfl) | (apply s_asIv; exact rfl; exact rfl) | (apply s_lenSl; exact rfl; exact rfl)) | (refine c_seq ?_) | (refine L.block ?_) | (refine s_region ?_) | (refine L.thenN ?_)))
  refine L.loopP (ι := Nat × Nat) (fun i => ⟨[(7, aI (i.1 : Int)), (8, aI (i.2 : Int)), (6, aI ((ks.map Str.c).length : Int)), (0, .iv (.sl (ks.map Str.c))), (1, aS key)], [], []⟩) (fun i => i.2 - i.1) (fun i => i.1 ≤ lbM ks key ∧ lbM ks key ≤ i.2 ∧ i.2 ≤ ks.length) (i0 := (0, ks.length)) ?_ ⟨Nat.zero_le _, hle, Nat.le_refl _⟩ ?_
  · refine Wk.mk' (by intro id h; cases h) (.cons rfl (Sub.refl _) (.cons rfl (Sub.of_eq ?_) (.cons rfl (Sub.refl _) (.cons rfl (Sub.refl _) (.cons rfl (Sub.refl _) .nil))))) .nil .nil
    simp
  rintro ⟨i, j⟩ ⟨h1, h2, h3⟩ K hK
  dsimp only at h1 h2 h3 ⊢
  cases hlt : decide ((i : Int) < (j : Int)) with
  | true =>
    have hij : i < j := by simpa using hlt
    have hh := half i j (by omega)
    have hm : (i + j) / 2 < ks.length := by omega
    obtain ⟨s, hs⟩ : ∃ s, ks[(i + j) / 2]? = some s := ⟨_, List.getElem?_eq_getElem hm⟩
    have g0 : 0 ≤ IntKind.i64.wrap ((IntKind.u64.wrap ((i : Int) + (j : Int))).fdiv (2 ^ min (Int.toNat 1) IntKind.u64.bits)) := by rw [hh]; omega
    have g1 : (ks.map Str.c)[(IntKind.i64.wrap ((IntKind.u64.wrap ((i : Int) + (j : Int))).fdiv (2 ^ min (Int.toNat 1) IntKind.u64.bits))).toNat]? = some [S s] := by rw [hh, Int.toNat_natCast, List.getElem?_map, hs]; rfl
    have g2 : -9223372036854775808 ≤ IntKind.i64.wrap ((IntKind.u64.wrap ((i : Int) + (j : Int))).fdiv (2 ^ min (Int.toNat 1) IntKind.u64.bits)) + 1 := by omega
    have g3 : IntKind.i64.wrap ((IntKind.u64.wrap ((i : Int) + (j : Int))).fdiv (2 ^ min (Int.toNat 1) IntKind.u64.bits)) + 1 ≤ 9223372036854775807 := by rw [hh]; omega
    cases hp : decide (s < key) with
    | true =>
      have := hf.le hs (by simpa using hp)
      (repeat' (first | (refine LW.is ?_; first | ((apply s_indexA; exact rfl; exact rfl; exact rfl; exact g0; exact g1; exact rfl)) | ((apply s_addI; exact rfl; exact rfl; exact rfl; exact g2; exact g3)) | ((apply s_call0; exact rfl; rotate_left; exact rfl; rotate_left 3; exact less_any s key; exact rfl)) | (refine s_nil ?_) | (apply s_mvIv; exact rfl; exact rfl) | (apply s_asIv; exact rfl; exact rfl) | (apply s_load1E; exact rfl; exact rfl; exact rfl) | (apply s_lssI; exact rfl; exact rfl; exact rfl) | (apply s_addI; exact rfl; exact rfl; exact rfl; (first | omega | decide | (dsimp only; omega)); (first | omega | decide | (dsimp only; omega))) | (apply s_conv; exact rfl; exact rfl) | (apply s_shrI; exact rfl; exact rfl; exact rfl; (first | decide | omega | (dsimp only; omega)))) | (refine c_seq ?_) | (refine L.block ?_) | (refine s_region ?_) | (refine L.thenN ?_) | (refine L.inN ?_) | (refine L.skip ?_) | (apply c_condT; exact rfl; (first | exact rfl | assumption))))
      refine hK _ ((i + j) / 2 + 1, j) ⟨by unfold lbM; omega, h2, h3⟩ (by dsimp only; omega) (Wk.mk' (by intro id h; cases h) (.cons rfl (Sub.of_eq (congrArg (fun z => aI z) ?_)) (.cons rfl (Sub.refl _) (.cons rfl (Sub.refl _) (.cons rfl (Sub.refl _) (.cons rfl (Sub.refl _) .nil))))) .nil .nil)
      rw [hh]; rfl
    | false =>
      have := Falls.ge (p := fun s => decide (s < key)) hs (by simpa using hp)
      (repeat' (first | (refine LW.is ?_; first | ((apply s_indexA; exact rfl; exact rfl; exact rfl; exact g0; exact g1; exact rfl)) | ((apply s_call0; exact rfl; rotate_left; exact rfl; rotate_left 3; exact less_any s key; exact rfl)) | (refine s_nil ?_) | (apply s_mvIv; exact rfl; exact rfl) | (apply s_asIv; exact rfl; exact rfl) | (apply s_load1E; exact rfl; exact rfl; exact rfl) | (apply s_lssI; exact rfl; exact rfl; exact rfl) | (apply s_addI; exact rfl; exact rfl; exact rfl; (first | omega | decide | (dsimp only; omega)); (first | omega | decide | (dsimp only; omega))) | (apply s_conv; exact rfl; exact rfl) | (apply s_shrI; exact rfl; exact rfl; exact rfl; (first | decide | omega | (dsimp only; omega)))) | (refine c_seq ?_) | (refine L.block ?_) | (refine s_region ?_) | (refine L.thenN ?_) | (refine L.inN ?_) | (refine L.skip ?_) | (apply c_condT; exact rfl; (first | exact rfl | assumption)) | (apply c_condF; exact rfl; (first | exact rfl | assumption))))
      refine hK _ (i, (i + j) / 2) ⟨h1, by unfold lbM; omega, by dsimp only; omega⟩ (by dsimp only; omega) (Wk.mk' (by intro id h; cases h) (.cons rfl (Sub.refl _) (.cons rfl (Sub.of_eq (congrArg (fun z => aI z) ?_)) (.cons rfl (Sub.refl _) (.cons rfl (Sub.refl _) (.cons rfl (Sub.refl _) .nil))))) .nil .nil)
      rw [hh]
  | false =>
    have hij : ¬ i < j := by simpa using hlt
    obtain rfl : i = lbM ks key := by omega
    cases hs : ks[lbM ks key]? with
    | none =>
      have hlt2 := ltF (l := ks.map Str.c) (getFN hs)
      (repeat' (first | (refine LW.is ?_; first | (refine s_nil ?_) | (apply s_mvIv; exact rfl; exact rfl) | (apply s_asIv; exact rfl; exact rfl) | (apply s_lssI; exact rfl; exact rfl; exact rfl) | (apply s_gskipT; exact rfl; exact rfl; exact rfl; (first | exact rfl | assumption)) | (apply s_gskipU; exact rfl; exact rfl; exact rfl) | (apply s_pickFIv; exact rfl; exact rfl; (first | exact rfl | assumption); exact rfl)) | (refine c_seq ?_) | (refine s_region ?_) | (refine L.thenN ?_) | (refine L.thenE ?_) | (refine L.inE ?_) | (refine L.ret ?_) | (refine L.exit ?_) | (apply c_condF; exact rfl; (first | exact rfl | assumption))))
      all_goals (first | (apply L.ends1; exact rfl; exact rfl; exact rfl) | (apply L.ends2; exact rfl; exact rfl; exact rfl) | (apply L.ends3; exact rfl; exact rfl; exact rfl) | (apply L.ends1A; exact rfl; exact rfl; exact rfl) | (apply L.ends2A; exact rfl; exact rfl; exact rfl))
      simp [foundM, hs]
    | some s =>
      have hlt2 := ltT (l := ks.map Str.c) (getF hs)
      have g1 : (ks.map Str.c)[((lbM ks key : Nat) : Int).toNat]? = some [S s] := by simp [hs, Str.c]
      cases hq : s == key with
      | true =>
        (repeat' (first | (refine LW.is ?_; first | ((apply s_indexA; exact rfl; exact rfl; exact rfl; omega; exact g1; exact rfl)) | (refine s_nil ?_) | (apply s_mvIv; exact rfl; exact rfl) | (apply s_asIv; exact rfl; exact rfl) | (apply s_load1E; exact rfl; exact rfl; exact rfl) | (apply s_lssI; exact rfl; exact rfl; exact rfl) | (apply s_eqlS; exact rfl; exact rfl; exact rfl) | (apply s_gdo; exact rfl; exact rfl; (first | exact rfl | assumption)) | (apply s_gskipF; exact rfl; exact rfl; exact rfl; (first | exact rfl | assumption)) | (apply s_gskipU; exact rfl; exact rfl; exact rfl) | (apply s_pickTIv; exact rfl; exact rfl; (first | exact rfl | assumption); exact rfl)) | (refine c_seq ?_) | (refine s_region ?_) | (refine L.thenN ?_) | (refine L.thenE ?_) | (refine L.inE ?_) | (refine L.ret ?_) | (refine L.exit ?_) | (apply c_condF; exact rfl; (first | exact rfl | assumption))))
        all_goals (first | (apply L.ends1; exact rfl; exact rfl; exact rfl) | (apply L.ends2; exact rfl; exact rfl; exact rfl) | (apply L.ends3; exact rfl; exact rfl; exact rfl) | (apply L.ends1A; exact rfl; exact rfl; exact rfl) | (apply L.ends2A; exact rfl; exact rfl; exact rfl))
        simp at hq
        simp [foundM, hs, hq]
      | false =>
        (repeat' (first | (refine LW.is ?_; first | ((apply s_indexA; exact rfl; exact rfl; exact rfl; omega; exact g1; exact rfl)) | ((apply s_call0; exact rfl; rotate_left; exact rfl; rotate_left 3; exact nanS3_any s; exact rfl)) | (refine s_nil ?_) | (apply s_mvIv; exact rfl; exact rfl) | (apply s_asIv; exact rfl; exact rfl) | (apply s_load1E; exact rfl; exact rfl; exact rfl) | (apply s_lssI; exact rfl; exact rfl; exact rfl) | (apply s_eqlS; exact rfl; exact rfl; exact rfl) | (apply s_gdo; exact rfl; exact rfl; (first | exact rfl | assumption)) | (apply s_gskipT; exact rfl; exact rfl; exact rfl; (first | exact rfl | assumption)) | (apply s_pickTIv; exact rfl; exact rfl; (first | exact rfl | assumption); exact rfl) | (apply s_pickFIv; exact rfl; exact rfl; (first | exact rfl | assumption); exact rfl)) | (refine c_seq ?_) | (refine s_region ?_) | (refine L.thenN ?_) | (refine L.thenE ?_) | (refine L.inE ?_) | (refine L.ret ?_) | (refine L.exit ?_) | (apply c_condF; exact rfl; (first | exact rfl | assumption))))
        all_goals (first | (apply L.ends1; exact rfl; exact rfl; exact rfl) | (apply L.ends2; exact rfl; exact rfl; exact rfl) | (apply L.ends3; exact rfl; exact rfl; exact rfl) | (apply L.ends1A; exact rfl; exact rfl; exact rfl) | (apply L.ends2A; exact rfl; exact rfl; exact rfl))
        simp at hq
        simp [foundM, hs, hq]
end Go.Proofs.Ytanlhpdjgelehaa
