/- Trees: what isNaN, Less, Good and Size compute. Conditions: how much there is of what comes in. -/
import Derived.Test.YtanlhpdjgelehaaRows
import Derived.Test.YtanlhpdjgelehaaT
namespace Go.Proofs.Ytanlhpdjgelehaa
open Go.Abs
attribute [local irreducible] L Code.wp bodyPost Exit.then Exit.inBlock
set_option linter.unusedVariables false
set_option linter.unusedSimpArgs false

abbrev Str := List UInt8
def Str.c (s : Str) : List IV := [S s]
/-- a page: its keys, its texts -/
structure Pg where
  ks : List Str
  vs : List Str
def Pg.c (p : Pg) : List IV := [.sl (p.ks.map Str.c), .sl (p.vs.map Str.c)]
theorem ltS {x y : Str} : Op.bytesLess x y = decide (x < y) := by
  induction x generalizing y with
  | nil => cases y <;> simp [Op.bytesLess]
  | cons a x ih =>
    cases y with
    | nil => simp [Op.bytesLess]
    | cons b y =>
      unfold Op.bytesLess
      rw [ih, Bool.eq_iff_iff]
      simp [List.cons_lt_cons_iff]
theorem leS {x y : Str} : (Op.bytesLess x y || x == y) = decide (x ≤ y) := by
  rw [ltS, Bool.eq_iff_iff]
  simp only [Bool.or_eq_true, decide_eq_true_eq, beq_iff_eq]
  constructor
  · rintro (h | rfl)
    · exact List.not_lt.1 (List.lt_asymm h)
    · exact List.not_lt.1 (List.lt_irrefl _)
  · intro h
    by_cases h1 : x < y
    · exact .inl h1
    · exact .inr (List.le_antisymm h (List.not_lt.1 h1))

/-- keys that rise, from one on that must be passed (none: at the beginning) -/
def risesM : Option Str → List Str → Bool
  | _, [] => true
  | some a, s :: l => decide (a < s) && risesM (some s) l
  | none, s :: l => risesM (some s) l
def lastM : Option Str → List Str → Option Str
  | o, [] => o
  | _, s :: l => lastM (some s) l
def goodT : Option Str → List Pg → Bool
  | _, [] => true
  | o, p :: ps => decide (1 ≤ p.ks.length) && (decide (p.ks.length ≤ 4) && (decide (p.vs.length = p.ks.length) && (risesM o p.ks && goodT (lastM o p.ks) ps)))
def goodTree (ps : List Pg) : Bool := goodT none ps

theorem nanS2_any (a : Str) : CallA Try.prog 61 [aS a] [] [] [] (aB false) := by
  refine CallA.intro _ Try.func61 rfl Try.ntmps61 rfl (fun w0 E0 => ?_)
  (repeat' (first | (refine LW.is ?_; first | (refine s_nil ?_) | (apply s_mvIv; exact rfl; exact rfl) | (apply s_asIv; exact rfl; exact rfl) | (apply s_neqS; exact rfl; exact rfl; exact rfl)) | (refine c_seq ?_) | (refine s_region ?_) | (refine L.thenN ?_) | (refine L.ret ?_)))
  all_goals (first | (apply L.ends1; exact rfl; exact rfl; exact rfl) | (apply L.ends2; exact rfl; exact rfl; exact rfl) | (apply L.ends3; exact rfl; exact rfl; exact rfl) | (apply L.ends1A; exact rfl; exact rfl; exact rfl) | (apply L.ends2A; exact rfl; exact rfl; exact rfl))
  all_goals simp [resOf]
theorem nanS3_any (a : Str) : CallA Try.prog 70 [aS a] [] [] [] (aB false) := by
  refine CallA.intro _ Try.func70 rfl Try.ntmps70 rfl (fun w0 E0 => ?_)
  (repeat' (first | (refine LW.is ?_; first | (refine s_nil ?_) | (apply s_mvIv; exact rfl; exact rfl) | (apply s_asIv; exact rfl; exact rfl) | (apply s_neqS; exact rfl; exact rfl; exact rfl)) | (refine c_seq ?_) | (refine s_region ?_) | (refine L.thenN ?_) | (refine L.ret ?_)))
  all_goals (first | (apply L.ends1; exact rfl; exact rfl; exact rfl) | (apply L.ends2; exact rfl; exact rfl; exact rfl) | (apply L.ends3; exact rfl; exact rfl; exact rfl) | (apply L.ends1A; exact rfl; exact rfl; exact rfl) | (apply L.ends2A; exact rfl; exact rfl; exact rfl))
  all_goals simp [resOf]
theorem less_any (a b : Str) : CallA Try.prog 69 [aS a, aS b] [] [] [] (aB (decide (a < b))) := by
  refine CallA.intro _ Try.func69 rfl Try.ntmps69 rfl (fun w0 E0 => ?_)
  (repeat' (first | (refine LW.is ?_; first | ((apply s_call0; exact rfl; rotate_left; exact rfl; rotate_left 3; exact nanS2_any _; exact rfl)) | (refine s_nil ?_) | (apply s_mvIv; exact rfl; exact rfl) | (apply s_asIv; exact rfl; exact rfl) | (apply s_lssS; exact rfl; exact rfl; exact rfl) | (apply s_gdo; exact rfl; exact rfl; (first | exact rfl | assumption)) | (apply s_gskipT; exact rfl; exact rfl; exact rfl; (first | exact rfl | assumption)) | (apply s_pickFIv; exact rfl; exact rfl; (first | exact rfl | assumption); exact rfl)) | (refine c_seq ?_) | (refine s_region ?_) | (refine L.thenN ?_) | (refine L.ret ?_)))
  all_goals (first | (apply L.ends1; exact rfl; exact rfl; exact rfl) | (apply L.ends2; exact rfl; exact rfl; exact rfl) | (apply L.ends3; exact rfl; exact rfl; exact rfl) | (apply L.ends1A; exact rfl; exact rfl; exact rfl) | (apply L.ends2A; exact rfl; exact rfl; exact rfl))
  all_goals simp [resOf, ltS]
def sizeM : List Pg → Nat
  | [] => 0
  | p :: ps => p.ks.length + sizeM ps
end Go.Proofs.Ytanlhpdjgelehaa
