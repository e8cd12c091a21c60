/- Values, plain laws: a key leads back to its values, and values to their key. Conditions: none. -/
import Derived.Test.YtanlhpdjgelehaaDoorV4
namespace Go.Proofs.YtanlhpdjgelehaaDoor
open Go.Abs
set_option linter.unusedVariables false
set_option linter.unusedSimpArgs false

theorem charOk_ne {b : UInt8} (h : charOk b = true) : b ≠ 0 := by
  intro e; subst e; simp [charOk] at h
theorem upto0_app {s r : List UInt8} (h : s.all charOk = true) : upto0 (s ++ 0 :: r) = s := by
  induction s with
  | nil => simp [upto0]
  | cons b s ih =>
    simp only [List.all_cons, Bool.and_eq_true] at h
    have := charOk_ne h.1
    have ih := ih h.2
    unfold upto0 at ih ⊢
    simp [this, ih]
theorem u8_nat {n : Int} (h0 : 0 ≤ n) : ((u8 n).toNat : Int) = n % 256 := by rw [u8_wrap, IntKind.wrap_u8]
theorem dec4_be4 {x : Int} (h0 : 0 ≤ x) (h1 : x < 4294967296) (r : List UInt8) : dec4 (be4 x ++ r) = x - 1073741824 := by
  have e0 := u8_nat (n := x / 16777216) (by omega)
  have e1 := u8_nat (n := x / 65536) (by omega)
  have e2 := u8_nat (n := x / 256) (by omega)
  have e3 := u8_nat (n := x) (by omega)
  simp only [dec4, be4, List.cons_append, List.getD_cons_zero, List.getD_cons_succ]
  omega
theorem good_cases {v : Val} (h : goodM v = true) : v = ⟨0, 0, []⟩ ∨ (∃ n : Int, v = ⟨1, n, []⟩ ∧ -1000000 ≤ n ∧ n ≤ 1000000) ∨ ∃ s, v = ⟨2, 0, s⟩ ∧ s.length ≤ 8 ∧ s.all charOk = true := by
  obtain ⟨k, n, s⟩ := v
  unfold goodM at h
  split at h
  · rename_i h0
    simp at h h0
    left; simp [h, h0]
  · split at h
    · rename_i h0
      simp at h h0
      right; left; exact ⟨n, by simp [h, h0], h.2⟩
    · split at h
      · rename_i h0
        simp only [Bool.and_eq_true, beq_iff_eq, decide_eq_true_eq] at h
        simp only at h0
        right; right; exact ⟨s, by simp [h.1, h0], h.2⟩
      · cases h
theorem keyOne0 : keyOne ⟨0, 0, []⟩ = [1] := by simp [keyOne, u8, IntKind.wrap_u8]
theorem keyOne1 (n : Int) : keyOne ⟨1, n, []⟩ = 2 :: be4 (n + 1073741824) := by simp [keyOne, u8, IntKind.wrap_u8]
theorem keyOne2 (s : List UInt8) : keyOne ⟨2, 0, s⟩ = 3 :: (s ++ [0]) := by simp [keyOne, u8, IntKind.wrap_u8]

theorem valOne2 (s : List UInt8) : valOne (2 :: s) = if s.length < 4 then none else some (⟨1, dec4 s, []⟩, s.drop 4) := by
  simp only [valOne]; rw [if_neg (by decide), if_pos (by decide)]
theorem valOne3 (s : List UInt8) : valOne (3 :: s) = if (upto0 s).length = s.length then none else some (⟨2, 0, upto0 s⟩, s.drop ((upto0 s).length + 1)) := by
  simp only [valOne]; rw [if_neg (by decide), if_neg (by decide), if_pos (by decide)]

theorem valOne_key {v : Val} (h : goodM v = true) (r : List UInt8) : valOne (keyOne v ++ r) = some (v, r) := by
  rcases good_cases h with rfl | ⟨n, rfl, h0, h1⟩ | ⟨s, rfl, hl, hs⟩
  · rw [keyOne0]; rfl
  · rw [keyOne1]
    have hl : ¬ (be4 (n + 1073741824) ++ r).length < 4 := by simp [be4]
    have e : dec4 (be4 (n + 1073741824) ++ r) = n := by rw [dec4_be4 (by omega) (by omega)]; omega
    have ed : (be4 (n + 1073741824) ++ r).drop 4 = r := by simp [be4]
    show valOne (2 :: (be4 (n + 1073741824) ++ r)) = _
    rw [valOne2, if_neg hl, e, ed]
  · rw [keyOne2]
    have hu : upto0 ((s ++ [0]) ++ r) = s := by
      have := upto0_app (r := r) hs
      simpa using this
    have hl : ¬ (upto0 ((s ++ [0]) ++ r)).length = ((s ++ [0]) ++ r).length := by rw [hu]; simp
    have ed : ((s ++ [0]) ++ r).drop (s.length + 1) = r := by
      rw [List.drop_append_of_le_length (by simp)]; simp
    show valOne (3 :: ((s ++ [0]) ++ r)) = _
    rw [valOne3, if_neg hl, hu, ed]
theorem valsM_key : ∀ {vs : List Val}, vs.all goodM = true → valsM (vs.flatMap keyOne) = some vs
  | [], _ => valsM_nil
  | v :: vs, h => by
    simp only [List.all_cons, Bool.and_eq_true] at h
    rw [List.flatMap_cons, valsM_some (valOne_key h.1 _), if_pos h.1, valsM_key h.2]; rfl

theorem be4_dec4 {c0 c1 c2 c3 : UInt8} {t : List UInt8} : be4 (dec4 (c0 :: c1 :: c2 :: c3 :: t) + 1073741824) = [c0, c1, c2, c3] := by
  have k0 := c0.toNat_lt
  have k1 := c1.toNat_lt
  have k2 := c2.toNat_lt
  have k3 := c3.toNat_lt
  have e : ∀ (n : Int) (c : UInt8), 0 ≤ n → n % 256 = (c.toNat : Int) → u8 n = c := by
    intro n c h0 h
    apply UInt8.toNat_inj.1
    have := u8_nat h0
    omega
  simp only [be4, dec4, List.getD_cons_zero, List.getD_cons_succ]
  rw [e _ c0 (by omega) (by omega), e _ c1 (by omega) (by omega), e _ c2 (by omega) (by omega), e _ c3 (by omega) (by omega)]
theorem upto0_split : ∀ {r : List UInt8}, (upto0 r).length ≠ r.length → r = upto0 r ++ 0 :: r.drop ((upto0 r).length + 1)
  | [], h => by simp [upto0] at h
  | b :: r, h => by
    by_cases hb : b = 0
    · subst hb; simp [upto0]
    · have e : upto0 (b :: r) = b :: upto0 r := by simp [upto0, hb]
      rw [e] at h ⊢
      have := upto0_split (r := r) (by simpa using h)
      simp only [List.length_cons, List.cons_append, List.drop_succ_cons]
      rw [← this]
theorem key_valOne {s r : List UInt8} {v : Val} (h : valOne s = some (v, r)) : s = keyOne v ++ r := by
  cases s with
  | nil => cases h
  | cons b s =>
    simp only [valOne] at h
    split at h
    · rename_i hb
      simp only [Option.some.injEq, Prod.mk.injEq] at h
      obtain ⟨rfl, rfl⟩ := h
      rw [keyOne0]
      obtain rfl : b = 1 := UInt8.toNat_inj.1 hb
      rfl
    · split at h
      · rename_i hb
        split at h
        · cases h
        · rename_i hl
          simp only [Option.some.injEq, Prod.mk.injEq] at h
          obtain ⟨rfl, rfl⟩ := h
          obtain rfl : b = 2 := UInt8.toNat_inj.1 hb
          rw [keyOne1]
          match s, hl with
          | [], h => simp at h
          | [_], h => simp at h
          | [_, _], h => simp at h
          | [_, _, _], h => simp at h
          | c0 :: c1 :: c2 :: c3 :: t, _ => rw [be4_dec4]; rfl
      · split at h
        · rename_i hb
          split at h
          · cases h
          · rename_i hl
            simp only [Option.some.injEq, Prod.mk.injEq] at h
            obtain ⟨rfl, rfl⟩ := h
            obtain rfl : b = 3 := UInt8.toNat_inj.1 hb
            rw [keyOne2]
            have := upto0_split hl
            simp only [List.cons_append, List.append_assoc, List.nil_append]
            rw [← this]
        · cases h
theorem key_valsM : ∀ (n : Nat) {s : List UInt8} {m : List Val}, s.length ≤ n → valsM s = some m → m.all goodM = true ∧ m.flatMap keyOne = s := by
  intro n
  induction n with
  | zero =>
    intro s m hl h
    obtain rfl : s = [] := List.eq_nil_of_length_eq_zero (by omega)
    rw [valsM_nil] at h
    cases h
    exact ⟨rfl, rfl⟩
  | succ n ih =>
    intro s m hl h
    by_cases hs : s = []
    · subst hs
      rw [valsM_nil] at h
      cases h
      exact ⟨rfl, rfl⟩
    · cases hv : valOne s with
      | none => rw [valsM_none hs hv] at h; cases h
      | some p =>
        obtain ⟨v, r⟩ := p
        rw [valsM_some hv] at h
        split at h
        · rename_i hg
          obtain ⟨m', hm, rfl⟩ := Option.map_eq_some_iff.1 h
          have := valOne_lt hv
          obtain ⟨h1, h2⟩ := ih (by omega) hm
          exact ⟨by simp [hg, h1], by rw [List.flatMap_cons, h2]; exact (key_valOne hv).symm⟩
        · cases h
/-- P1.5 -/
theorem vals_of_key {vs : List Val} (h : (keyM vs).2 = 0) : valsR (keyM vs).1 = (vs, 0) := by
  unfold keyM at h ⊢
  split at h
  · rename_i hg
    rw [if_pos hg]
    simp [valsR, valsM_key hg]
  · simp at h
theorem key_of_vals {s : List UInt8} (h : (valsR s).2 = 0) : keyM (valsR s).1 = (s, 0) := by
  unfold valsR at h ⊢
  cases hm : valsM s with
  | none => rw [hm] at h; simp at h
  | some m =>
    obtain ⟨h1, h2⟩ := key_valsM _ (Nat.le_refl _) hm
    simp [keyM, h1, h2]
theorem valsM_length : ∀ (n : Nat) {s : List UInt8} {m : List Val}, s.length ≤ n → valsM s = some m → m.length ≤ s.length := by
  intro n s m hl h
  obtain ⟨h1, h2⟩ := key_valsM n hl h
  rw [← h2]
  clear h h2 hl h1
  induction m with
  | nil => simp
  | cons v m ih => simp only [List.flatMap_cons, List.length_append, List.length_cons]; simp only [keyOne, List.length_cons]; omega
theorem valsR_length (s : List UInt8) : (valsR s).1.length ≤ s.length := by
  unfold valsR
  cases hm : valsM s with
  | none => simp
  | some m => exact valsM_length _ (Nat.le_refl _) hm
theorem keyM_length (vs : List Val) : (keyM vs).1.length ≤ 10 * vs.length := by
  unfold keyM
  split
  · rename_i h; exact flat_length h
  · simp
end Go.Proofs.YtanlhpdjgelehaaDoor
