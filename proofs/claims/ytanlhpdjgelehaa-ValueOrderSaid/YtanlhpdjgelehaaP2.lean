/- Values, plain laws: keys are ordered as values are. Conditions: none. -/
import Derived.Test.YtanlhpdjgelehaaV8
namespace Go.Proofs.Ytanlhpdjgelehaa
open Go.Abs
set_option linter.unusedVariables false
set_option linter.unusedSimpArgs false

theorem u8_lt {a b : UInt8} : a < b ↔ a.toNat < b.toNat := UInt8.lt_iff_toNat_lt
theorem be4_less {a b : Int} (h0 : 0 ≤ a) (h1 : a < b) (h2 : b < 4294967296) (x y : List UInt8) : Op.bytesLess (be4 a ++ x) (be4 b ++ y) = true := by
  have a0 := u8_nat (n := a / 16777216) (by omega)
  have a1 := u8_nat (n := a / 65536) (by omega)
  have a2 := u8_nat (n := a / 256) (by omega)
  have a3 := u8_nat (n := a) (by omega)
  have b0 := u8_nat (n := b / 16777216) (by omega)
  have b1 := u8_nat (n := b / 65536) (by omega)
  have b2 := u8_nat (n := b / 256) (by omega)
  have b3 := u8_nat (n := b) (by omega)
  simp only [be4, List.cons_append, List.nil_append, Op.bytesLess]
  generalize u8 (a / 16777216) = c0 at *
  generalize u8 (a / 65536) = c1 at *
  generalize u8 (a / 256) = c2 at *
  generalize u8 a = c3 at *
  generalize u8 (b / 16777216) = d0 at *
  generalize u8 (b / 65536) = d1 at *
  generalize u8 (b / 256) = d2 at *
  generalize u8 b = d3 at *
  have ha : a = 16777216 * (c0.toNat : Int) + 65536 * c1.toNat + 256 * c2.toNat + c3.toNat := by omega
  have hb : b = 16777216 * (d0.toNat : Int) + 65536 * d1.toNat + 256 * d2.toNat + d3.toNat := by omega
  clear a0 a1 a2 a3 b0 b1 b2 b3
  have e0 := c0.toNat_lt
  have e1 := c1.toNat_lt
  have e2 := c2.toNat_lt
  have e3 := c3.toNat_lt
  have g0 := d0.toNat_lt
  have g1 := d1.toNat_lt
  have g2 := d2.toNat_lt
  have g3 := d3.toNat_lt
  have key : c0.toNat < d0.toNat ∨ c0.toNat = d0.toNat ∧ (c1.toNat < d1.toNat ∨ c1.toNat = d1.toNat ∧ (c2.toNat < d2.toNat ∨ c2.toNat = d2.toNat ∧ c3.toNat < d3.toNat)) := by omega
  simp only [Bool.or_eq_true, Bool.and_eq_true, decide_eq_true_eq, beq_iff_eq, u8_lt]
  rcases key with h | ⟨h, h' | ⟨h', h'' | ⟨h'', h3⟩⟩⟩
  · exact .inl h
  · exact .inr ⟨UInt8.toNat_inj.1 h, .inl h'⟩
  · exact .inr ⟨UInt8.toNat_inj.1 h, .inr ⟨UInt8.toNat_inj.1 h', .inl h''⟩⟩
  · exact .inr ⟨UInt8.toNat_inj.1 h, .inr ⟨UInt8.toNat_inj.1 h', .inr ⟨UInt8.toNat_inj.1 h'', .inl h3⟩⟩⟩
theorem text_less : ∀ {s t : List UInt8}, t.all charOk = true → Op.bytesLess s t = true → ∀ x y, Op.bytesLess (s ++ 0 :: x) (t ++ 0 :: y) = true
  | _, [], _, h, x, y => by simp [Op.bytesLess] at h
  | [], b :: t, ht, _, x, y => by
    simp only [List.all_cons, Bool.and_eq_true] at ht
    have hb : (0 : UInt8) < b := by
      rw [u8_lt]
      have := ht.1
      simp [charOk] at this
      have e : (0 : UInt8).toNat = 0 := rfl
      omega
    simp [Op.bytesLess, hb]
  | a :: s, b :: t, ht, h, x, y => by
    simp only [List.all_cons, Bool.and_eq_true] at ht
    simp only [Op.bytesLess, Bool.or_eq_true, Bool.and_eq_true, List.cons_append] at h ⊢
    exact h.imp id (fun ⟨h1, h2⟩ => ⟨h1, text_less ht.2 h2 x y⟩)
theorem less_irrefl (x : List UInt8) : Op.bytesLess x x = false := by rw [less_lt]; simp [List.lt_irrefl]
theorem less_asymm {x y : List UInt8} (h : Op.bytesLess x y = true) : Op.bytesLess y x = false := by
  rw [less_lt] at h ⊢
  simp only [decide_eq_true_eq, decide_eq_false_iff_not] at h ⊢
  exact List.lt_asymm h
theorem less_tri {x y : List UInt8} (h : Op.bytesLess x y = false) (h' : Op.bytesLess y x = false) : x = y := by
  rw [less_lt] at h h'
  simp only [decide_eq_false_iff_not] at h h'
  exact List.le_antisymm (List.not_lt.1 h') (List.not_lt.1 h)
theorem less_app (z : List UInt8) {x y : List UInt8} : Op.bytesLess (z ++ x) (z ++ y) = Op.bytesLess x y := by
  induction z with
  | nil => rfl
  | cons a z ih =>
    simp only [List.cons_append, Op.bytesLess, ih]
    have : ¬ a < a := by rw [u8_lt]; omega
    simp [this]

theorem cmpI_self (a : Int) : cmpI a a = 0 := by simp [cmpI]
theorem cmpS_self (a : List UInt8) : cmpS a a = 0 := by simp [cmpS, less_irrefl]
/-- one value against another -/
theorem cmp_one {v w : Val} (hv : goodM v = true) (hw : goodM w = true) : v = w ∧ cmpM v w = 0 ∨ (cmpM v w = -1 ∧ ∀ x y, Op.bytesLess (keyOne v ++ x) (keyOne w ++ y) = true) ∨ (cmpM v w = 1 ∧ ∀ x y, Op.bytesLess (keyOne w ++ y) (keyOne v ++ x) = true) := by
  rcases good_cases hv with rfl | ⟨n, rfl, h0, h1⟩ | ⟨s, rfl, hl, hs⟩ <;> rcases good_cases hw with rfl | ⟨m, rfl, k0, k1⟩ | ⟨t, rfl, kl, ks⟩
  · left; exact ⟨rfl, by simp [cmpM, cmpI_self, cmpS_self, orL]⟩
  · right; left; rw [keyOne0, keyOne1]
    exact ⟨by simp [cmpM, orL, cmpI], fun x y => by simp [Op.bytesLess]⟩
  · right; left; rw [keyOne0, keyOne2]
    exact ⟨by simp [cmpM, orL, cmpI], fun x y => by simp [Op.bytesLess]⟩
  · right; right; rw [keyOne0, keyOne1]
    exact ⟨by simp [cmpM, orL, cmpI], fun x y => by simp [Op.bytesLess]⟩
  · rw [keyOne1, keyOne1]
    by_cases h : n = m
    · subst h; left; exact ⟨rfl, by simp [cmpM, cmpI_self, cmpS_self, orL]⟩
    · by_cases h' : n < m
      · right; left
        refine ⟨by simp [cmpM, orL, cmpI, h'], fun x y => ?_⟩
        have := be4_less (a := n + 1073741824) (b := m + 1073741824) (by omega) (by omega) (by omega) x y
        simp only [List.cons_append, Op.bytesLess, this]; simp
      · right; right
        have h'' : m < n := by omega
        refine ⟨by simp [cmpM, orL, cmpI, h', h''], fun x y => ?_⟩
        have := be4_less (a := m + 1073741824) (b := n + 1073741824) (by omega) (by omega) (by omega) y x
        simp only [List.cons_append, Op.bytesLess, this]; simp
  · right; left; rw [keyOne1, keyOne2]
    exact ⟨by simp [cmpM, orL, cmpI], fun x y => by simp [Op.bytesLess]⟩
  · right; right; rw [keyOne0, keyOne2]
    exact ⟨by simp [cmpM, orL, cmpI], fun x y => by simp [Op.bytesLess]⟩
  · right; right; rw [keyOne1, keyOne2]
    exact ⟨by simp [cmpM, orL, cmpI], fun x y => by simp [Op.bytesLess]⟩
  · rw [keyOne2, keyOne2]
    cases h : Op.bytesLess s t with
    | true =>
      right; left
      refine ⟨by simp [cmpM, orL, cmpI, cmpS, h], fun x y => ?_⟩
      have := text_less ks h x y
      simp only [List.cons_append, List.append_assoc, List.nil_append, Op.bytesLess, this]; simp
    | false =>
      cases h' : Op.bytesLess t s with
      | true =>
        right; right
        refine ⟨by simp [cmpM, orL, cmpI, cmpS, h, h'], fun x y => ?_⟩
        have := text_less hs h' y x
        simp only [List.cons_append, List.append_assoc, List.nil_append, Op.bytesLess, this]; simp
      | false =>
        obtain rfl := less_tri h h'
        left; exact ⟨rfl, by simp [cmpM, cmpI_self, cmpS_self, orL]⟩

def firstC : List Val → List Val → Int
  | v :: l, w :: m => if cmpM v w = 0 then firstC l m else cmpM v w
  | _, _ => 0
theorem order_law : ∀ {a b : List Val}, a.all goodM = true → b.all goodM = true → a.length = b.length →
    decide (firstC a b < 0) = Op.bytesLess (a.flatMap keyOne) (b.flatMap keyOne) ∧ (firstC a b == 0) = (a.flatMap keyOne == b.flatMap keyOne)
  | [], [], _, _, _ => by simp [firstC, Op.bytesLess]
  | [], _ :: _, _, _, h => by simp at h
  | _ :: _, [], _, _, h => by simp at h
  | v :: a, w :: b, ha, hb, hl => by
    simp only [List.all_cons, Bool.and_eq_true] at ha hb
    have ih := order_law ha.2 hb.2 (by simpa using hl)
    simp only [List.flatMap_cons]
    rcases cmp_one ha.1 hb.1 with ⟨rfl, h⟩ | ⟨h, hx⟩ | ⟨h, hx⟩
    · simp only [firstC, h, if_true]
      rw [less_app]
      refine ⟨ih.1, ?_⟩
      rw [ih.2, Bool.eq_iff_iff]; simp
    · have h1 := hx (a.flatMap keyOne) (b.flatMap keyOne)
      have h2 : keyOne v ++ a.flatMap keyOne ≠ keyOne w ++ b.flatMap keyOne := fun e => by rw [e, less_irrefl] at h1; cases h1
      simp only [firstC, h]
      rw [h1]
      simp [h2]
    · have h1 := hx (a.flatMap keyOne) (b.flatMap keyOne)
      have h2 : keyOne v ++ a.flatMap keyOne ≠ keyOne w ++ b.flatMap keyOne := fun e => by rw [e, less_irrefl] at h1; cases h1
      have h3 := less_asymm h1
      simp only [firstC, h]
      rw [h3]
      simp [h2]
end Go.Proofs.Ytanlhpdjgelehaa
