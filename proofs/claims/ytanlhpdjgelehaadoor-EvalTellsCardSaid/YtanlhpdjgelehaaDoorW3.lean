/- Expressions, as the reference evaluates them. Conditions: the table stands; how much there is of what comes in. -/
import Derived.Test.YtanlhpdjgelehaaDoorW1
import Derived.Test.YtanlhpdjgelehaaDoorV15
namespace Go.Proofs.YtanlhpdjgelehaaDoor
open Go.Abs
attribute [local irreducible] L Code.wp bodyPost Exit.then Exit.inBlock
set_option linter.unusedVariables false
set_option linter.unusedSimpArgs false

def truth3 (n : Int) : Prop := n = 0 ∨ n = 1 ∨ n = 2
theorem of3 (v : Val) : truth3 (ofM v) := by
  unfold truth3 ofM
  have : v.n % 2 = 0 ∨ v.n % 2 = 1 := by omega
  split <;> omega
theorem not3 (a : Int) : truth3 (notM a) := by
  unfold truth3 notM; split <;> omega
theorem and3 (a b : Int) : truth3 (andM a b) := by
  unfold truth3 andM; repeat' split <;> omega
theorem or3 (a b : Int) : truth3 (orM a b) := not3 _
def valofM (n : Int) : Val := if n = 2 then nilV else ⟨3, n, []⟩
theorem valof_truth {n : Int} (h : truth3 n) : valofM n = truthM n := by
  rcases h with rfl | rfl | rfl <;> simp [valofM, truthM]
set_option maxRecDepth 100000 in
theorem valof_any (n : Int) : CallA Tryd.prog 31 [aI n] [] [] [] (.agg ((valofM n).c.map .iv)) := by
  refine CallA.intro _ Tryd.func31 rfl Tryd.ntmps31 rfl (fun w0 E0 => ?_)
  by_cases h : n = 2
  · subst h
    have e : valofM 2 = nilV := rfl
    rw [e]
    (repeat' (first | (refine LW.is ?_; first | (refine s_nil ?_) | (apply s_mvIv; exact rfl; exact rfl) | (apply s_eqlI; exact rfl; exact rfl; exact rfl) | (apply s_alloc; exact rfl; exact rfl; (focus repeat' (first | exact nl_nil rfl | (apply nl_cons; exact rfl) | exact nIm rfl | exact nSl rfl | exact nIv rfl | exact nRow rfl | exact nNil rfl | exact nPtr rfl | exact nAny rfl | exact nIIm rfl | exact nISl rfl | exact rfl)); exact rfl; exact rfl) | (apply s_build; exact rfl; exact rfl; (apply n_some; exact rfl; (focus repeat' (first | exact nl_nil rfl | (apply nl_cons; exact rfl) | exact nIm rfl | exact nSl rfl | exact nIv rfl | exact nRow rfl | exact nNil rfl | exact nPtr rfl | exact nAny rfl | exact nIIm rfl | exact nISl rfl | exact rfl)))) | (apply s_store; exact rfl; exact rfl; exact rfl; exact rfl; exact rfl; exact rfl; (focus repeat' (first | exact nl_nil rfl | (apply nl_cons; exact rfl) | exact nIm rfl | exact nSl rfl | exact nIv rfl | exact nRow rfl | exact nNil rfl | exact nPtr rfl | exact nAny rfl | exact nIIm rfl | exact nISl rfl | exact rfl)))) | (refine c_seq ?_) | (refine s_region ?_) | (refine L.thenN ?_) | (refine L.thenR ?_) | (refine L.ret ?_) | (apply c_condT; exact rfl; (first | exact rfl | assumption))))
    all_goals (first | (apply L.ends1; exact rfl; exact rfl; exact rfl) | (apply L.ends2; exact rfl; exact rfl; exact rfl) | (apply L.ends3; exact rfl; exact rfl; exact rfl) | (apply L.ends1A; exact rfl; exact rfl; exact rfl) | (apply L.ends2A; exact rfl; exact rfl; exact rfl))
    all_goals kernel_rfl
  · have e : valofM n = ⟨3, n, []⟩ := by rw [valofM, if_neg h]
    rw [e]
    have q : (n == 2) = false := by simp [h]
    (repeat' (first | (refine LW.is ?_; first | (refine s_nil ?_) | (apply s_mvIv; exact rfl; exact rfl) | (apply s_eqlI; exact rfl; exact rfl; exact rfl) | (apply s_alloc; exact rfl; exact rfl; (focus repeat' (first | exact nl_nil rfl | (apply nl_cons; exact rfl) | exact nIm rfl | exact nSl rfl | exact nIv rfl | exact nRow rfl | exact nNil rfl | exact nPtr rfl | exact nAny rfl | exact nIIm rfl | exact nISl rfl | exact rfl)); exact rfl; exact rfl) | (apply s_build; exact rfl; exact rfl; (apply n_some; exact rfl; (focus repeat' (first | exact nl_nil rfl | (apply nl_cons; exact rfl) | exact nIm rfl | exact nSl rfl | exact nIv rfl | exact nRow rfl | exact nNil rfl | exact nPtr rfl | exact nAny rfl | exact nIIm rfl | exact nISl rfl | exact rfl)))) | (apply s_store; exact rfl; exact rfl; exact rfl; exact rfl; exact rfl; exact rfl; (focus repeat' (first | exact nl_nil rfl | (apply nl_cons; exact rfl) | exact nIm rfl | exact nSl rfl | exact nIv rfl | exact nRow rfl | exact nNil rfl | exact nPtr rfl | exact nAny rfl | exact nIIm rfl | exact nISl rfl | exact rfl)))) | (refine c_seq ?_) | (refine s_region ?_) | (refine L.thenN ?_) | (refine L.ret ?_) | (refine L.skip ?_) | (apply c_condF; exact rfl; (first | exact rfl | assumption))))
    all_goals (first | (apply L.ends1; exact rfl; exact rfl; exact rfl) | (apply L.ends2; exact rfl; exact rfl; exact rfl) | (apply L.ends3; exact rfl; exact rfl; exact rfl) | (apply L.ends1A; exact rfl; exact rfl; exact rfl) | (apply L.ends2A; exact rfl; exact rfl; exact rfl))
    all_goals kernel_rfl
theorem truthof_any (v : Val) : CallA Tryd.prog 19 [.agg (v.c.map .iv)] [] [] [] (aI (ofM v)) := by
  refine CallA.intro _ Tryd.func19 rfl Tryd.ntmps19 rfl (fun w0 E0 => ?_)
  (repeat' (first | (refine LW.is ?_; first | (refine s_nil ?_) | (apply s_asIv; exact rfl; exact rfl) | (apply s_fieldP; exact rfl; exact rfl; exact rfl) | (apply s_load1P; exact rfl; exact rfl; exact rfl; (apply n_some; exact rfl; (first | exact nIm rfl | exact nSl rfl | exact nIv rfl | exact nRow rfl | exact nNil rfl | exact nPtr rfl | exact nAny rfl | exact rfl))) | (apply s_eqlI; exact rfl; exact rfl; exact rfl) | (apply s_box; exact rfl; exact rfl; exact rfl; (focus repeat' (first | exact nl_nil rfl | (apply nl_cons; exact rfl) | exact nIm rfl | exact nSl rfl | exact nIv rfl | exact nRow rfl | exact nNil rfl | exact nPtr rfl | exact nAny rfl | exact nIIm rfl | exact nISl rfl | exact rfl)); exact rfl; exact rfl) | (apply s_and1; exact rfl; exact rfl; exact rfl)) | (refine c_seq ?_) | (refine s_region ?_) | (refine L.thenN ?_) | (refine L.thenR ?_) | (refine L.ret ?_) | (refine L.skip ?_) | (refine L.cond rfl (fun hb => ?_) (fun hb => ?_) <;> (have hp := hb; try simp only [decide_eq_true_eq, decide_eq_false_iff_not, beq_iff_eq, beq_eq_false_iff_ne, bne_iff_ne, bne_eq_false_iff_eq, ne_eq, Bool.not_eq_true, Bool.not_eq_false, Bool.not_eq_eq_eq_not, Bool.not_true, Bool.not_false, Bool.or_eq_true, Bool.or_eq_false_iff, Bool.and_eq_true, Bool.and_eq_false_iff, Int.not_lt, Int.not_le] at hp))))
  all_goals (first | (apply L.ends1; exact rfl; exact rfl; exact rfl) | (apply L.ends2; exact rfl; exact rfl; exact rfl) | (apply L.ends3; exact rfl; exact rfl; exact rfl) | (apply L.ends1A; exact rfl; exact rfl; exact rfl) | (apply L.ends2A; exact rfl; exact rfl; exact rfl))
  all_goals simp [ofM, resOf, *]

/-- no text in it is longer than it may be -/
inductive Ex.Str : Ex → Prop
  | mk {op : Int} {v : Val} {s name : List UInt8} {n : Int} {l : List Ex} (hv : v.s.length ≤ 140737488355328) (h : ∀ x ∈ l, x.Str) : Ex.Str (.mk op v s name n l)
theorem str_truth (n : Int) : (truthM n).s.length ≤ 140737488355328 := by
  unfold truthM; split <;> simp [nilV]
theorem str_two (op : Int) (a b : Val) : (twoM op a b).s.length ≤ 140737488355328 := by
  unfold twoM
  repeat' split
  all_goals first | exact str_truth _ | (simp [nilV]; done) | skip
  unfold sumM
  dsimp only
  repeat' split
  all_goals simp [nilV]
theorem str_eval (row : List Val) (hr : ∀ v ∈ row, v.s.length ≤ 140737488355328) (e : Ex) (he : e.Str) : (evalM row e).s.length ≤ 140737488355328 := by
  obtain ⟨op, v, s, name, n, l⟩ := e
  rw [evalM_eq, evalOne]
  split
  · cases he with | mk hv _ => exact hv
  · split
    · unfold refM
      split
      · cases h : row[n.toNat]? with
        | none => simp [nilV]
        | some r => exact hr r (List.mem_of_getElem? h)
      · simp [nilV]
    · generalize l.map (evalM row) = vs
      match vs with
      | [] => simp [restM, nilV]
      | [a] =>
        simp only [restM]
        repeat' split
        all_goals first | exact str_truth _ | (simp [nilV]; done)
      | [a, b] => exact str_two op a b
      | _ :: _ :: _ :: _ => simp [restM, nilV]

abbrev bE (op : Int) (v : Val) (s name : List UInt8) (n : Int) (l : List Ex) : Box := ⟨32, [.iv (I op), .iv (I v.k), .iv (I v.n), .iv (S v.s), .iv (S s), .iv (S name), .iv (I n), .iv (.sl (l.map Ex.c))]⟩
abbrev bR (row : List Val) : Box := ⟨33, [.iv (.sl (row.map Val.c))]⟩
abbrev CE (row : List Val) (e : Ex) : Prop := CallG 0 tab Tryd.prog 17 [.agg (e.c.map .iv), .iv (.sl (row.map Val.c))] [] [] [] (.agg ((evalM row e).c.map .iv))

set_option maxRecDepth 100000 in
/-- what the closure computes -/
theorem clo_any (row : List Val) (op : Int) (v : Val) (s name : List UInt8) (n : Int) (l : List Ex) (i : Nat) (x : Ex) (hx : l[i]? = some x) (ih : CE row x) :
    CallG 0 tab Tryd.prog 30 [aI (i : Int), .ptr 2 0, .ptr 3 0] [(2, bE op v s name n l), (3, bR row)] [(2, bE op v s name n l), (3, bR row)] [] (.agg ((evalM row x).c.map .iv)) := by
  refine CallG.intro _ Tryd.func30 rfl Tryd.ntmps30 rfl (fun w0 E0 hG => ?_)
  unfold CE at ih
  generalize evalM row x = r at ih
  obtain ⟨op', v', s', name', n', l'⟩ := x
  rw [Ex.c_eq] at ih
  have he : (l.map Ex.c)[((i : Nat) : Int).toNat]? = some [I op', I v'.k, I v'.n, S v'.s, S s', S name', I n', .sl (l'.map Ex.c)] := by
    rw [← Ex.c_eq]; simp [hx]
  clear hx
  (repeat' (first | (refine LW.is ?_; first | (refine s_nil ?_) | (apply s_alloc; exact rfl; exact rfl; (focus repeat' (first | exact nl_nil rfl | (apply nl_cons; exact rfl) | exact nIm rfl | exact nSl rfl | exact nIv rfl | exact nRow rfl | exact nNil rfl | exact nPtr rfl | exact nAny rfl | exact nIIm rfl | exact nISl rfl | exact rfl)); exact rfl; exact rfl)) | (refine DR.is ?_; first | ((apply d_indexA; exact rfl; exact rfl; exact rfl; omega; exact he; exact rfl)) | ((apply d_callG; exact rfl; exact hG; exact ih; exact rfl; exact rfl)) | (apply d_nil; kernel_rfl) | (apply d_mvIv; exact rfl; exact rfl) | (apply d_fieldP; exact rfl; exact rfl; exact rfl) | (apply d_load1P; exact rfl; exact rfl; exact rfl; (apply n_some; exact rfl; (first | exact nIm rfl | exact nSl rfl | exact nIv rfl | exact nRow rfl | exact nNil rfl | exact nPtr rfl | exact nAny rfl | exact rfl))) | (apply d_loadAE; exact rfl; exact rfl; (focus repeat' (first | exact nl_nil rfl | (apply nl_cons; exact rfl) | exact nIm rfl | exact nSl rfl | exact nIv rfl | exact nRow rfl | exact nNil rfl | exact nPtr rfl | exact nAny rfl | exact nIIm rfl | exact nISl rfl | exact rfl)); exact rfl) | (apply d_store; exact rfl; exact rfl; exact rfl; exact rfl; exact rfl; exact rfl; (focus repeat' (first | exact nl_nil rfl | (apply nl_cons; exact rfl) | exact nIm rfl | exact nSl rfl | exact nIv rfl | exact nRow rfl | exact nNil rfl | exact nPtr rfl | exact nAny rfl | exact nIIm rfl | exact nISl rfl | exact rfl)))) | (refine c_seq ?_) | (refine s_region ?_) | (refine d_region ?_) | (refine L.thenN ?_) | (refine L.ret ?_)))
  all_goals (apply L.ends; exact rfl; exact rfl; exact Sub.of_eq (by kernel_rfl); exact Wk.mk' (by intro id h; simp [keys] at h; rcases h with rfl | rfl <;> rfl) .nil (.cons rfl rfl (Subs.refl _) (.cons rfl rfl (Subs.refl _) .nil)) .nil)

abbrev CM (row : List Val) (op : Int) (v : Val) (s name : List UInt8) (n : Int) (l : List Ex) (res : Val) : Prop :=
  CallG 0 tab Tryd.prog 17 [.agg ([I op, I v.k, I v.n, S v.s, S s, S name, I n, .sl (l.map Ex.c)].map .iv), .iv (.sl (row.map Val.c))] [] [] [] (.agg (res.c.map .iv))
abbrev CK (row : List Val) (op : Int) (v : Val) (s name : List UInt8) (n : Int) (l : List Ex) (i : Nat) (a : Val) : Prop :=
  CallG 0 tab Tryd.prog 30 [aI (i : Int), .ptr 2 0, .ptr 3 0] [(2, bE op v s name n l), (3, bR row)] [(2, bE op v s name n l), (3, bR row)] [] (.agg (a.c.map .iv))
end Go.Proofs.YtanlhpdjgelehaaDoor
