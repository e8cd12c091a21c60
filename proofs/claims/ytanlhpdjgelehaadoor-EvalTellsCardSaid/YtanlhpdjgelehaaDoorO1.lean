/- A logic of abstract states, part 16: the opener: from what came in, read as data, to published contents; and a law's end. Conditions: the premises. -/
import Derived.Test.YtanlhpdjgelehaaDoorB3
import Derived.ChangeArms
import Derived.ChangeOld
import Derived.OpenShut
import Derived.Carry
import Derived.SizedLaws
namespace Go.Abs
open Go.RowKit (Below)
set_option linter.unusedVariables false

/-- what one cell may hold -/
inductive CT where
  | bool
  | int (k : IntKind)
  | str
  | sl (e : TypeId)
  deriving DecidableEq

def flatFs (P : Program) (fl : TypeId → Option (List CT)) : List Field → Nat → Nat → Option (List CT)
  | [], off, tot => if off = tot then some [] else none
  | f :: fs, off, tot => match fl f.type with
    | some cts => if f.offset = off ∧ P.cellsOf f.type = cts.length then (flatFs P fl fs (off + cts.length) tot).map (cts ++ ·) else none
    | none => none
/-- a type's cells, one behind the other; none: some other kind occurs, or the parts do not lie side by side -/
def flat (P : Program) : Nat → TypeId → Option (List CT)
  | 0, _ => none
  | n + 1, t => match P.underlying t with
    | some .bool => some [.bool]
    | some (.int k) => some [.int k]
    | some .string => some [.str]
    | some (.slice e) => some [.sl e]
    | some (.struct fs) => flatFs P (flat P n) fs.toList 0 (P.cellsOf t)
    | _ => none

mutual
/-- how much there is of it: letters, and places -/
def IV.sz : IV → Nat
  | .im (.string s) => s.size + 1
  | .im _ => 1
  | .sl es => szss es + 1
def szss : List (List IV) → Nat
  | [] => 0
  | e :: es => szs e + szss es
def szs : List IV → Nat
  | [] => 0
  | x :: xs => x.sz + szs xs
end
theorem szs_append : ∀ (a b : List IV), szs (a ++ b) = szs a + szs b
  | [], b => by simp [szs]
  | x :: a, b => by simp [szs, szs_append a b]; omega

/-- the types of elements, each with its bytes and its cells -/
abbrev Book := List (TypeId × Nat × List CT)
def Book.has (T : Book) : CT → Bool
  | .sl e => (T.lookup e).isSome
  | _ => true
def Book.ok (P : Program) (T : Book) : Bool := T.all fun p => decide (flat P 9 p.1 = some p.2.2) && decide (P.cellsOf p.1 = p.2.2.length) && decide (0 < p.2.2.length) && p.2.2.all T.has && decide (P.bytesOf p.1 = p.2.1)

/-- contents that are of a type -/
inductive Fit (P : Book) : CT → IV → Prop
  | bool {b : Bool} : Fit P .bool (.im (.bool b))
  | int {k : IntKind} {n : Int} (h : (Lit.int k n).wf = true) : Fit P (.int k) (.im (.int k n))
  | str {s : ByteArray} (h : s.size ≤ reachBytes) : Fit P .str (.im (.string s))
  | sl {e : TypeId} {es : List (List IV)} {n : Nat} {cts : List CT} (hm : es.length * n ≤ reachBytes) (hl : P.lookup e = some (n, cts)) (h1 : ∀ (j : Nat) (x : List IV), es[j]? = some x → x.length = cts.length)
      (h : ∀ (j : Nat) (x : List IV) (i : Nat) (c : CT) (y : IV), es[j]? = some x → cts[i]? = some c → x[i]? = some y → Fit P c y) : Fit P (.sl e) (.sl es)

def Fits (P : Book) (cts : List CT) (xs : List IV) : Prop := xs.length = cts.length ∧ ∀ (i : Nat) (c : CT) (y : IV), cts[i]? = some c → xs[i]? = some y → Fit P c y
def Reps (φ : Nat → Nat) (w : World) (xs : List IV) (cs : List Value) : Prop := xs.length = cs.length ∧ ∀ (i : Nat) (y : IV) (v : Value), xs[i]? = some y → cs[i]? = some v → RepI φ w y v

theorem two_append {α β : Type} {R : α → β → Prop} {a a' : List α} {b b' : List β} (hl : a.length = b.length)
    (h : ∀ (i : Nat) (x : α) (y : β), a[i]? = some x → b[i]? = some y → R x y) (h' : ∀ (i : Nat) (x : α) (y : β), a'[i]? = some x → b'[i]? = some y → R x y) :
    ∀ (i : Nat) (x : α) (y : β), (a ++ a')[i]? = some x → (b ++ b')[i]? = some y → R x y := by
  intro i x y hx hy
  by_cases hi : i < a.length
  · rw [List.getElem?_append_left hi] at hx
    rw [List.getElem?_append_left (by omega)] at hy
    exact h i x y hx hy
  · rw [List.getElem?_append_right (by omega)] at hx
    rw [List.getElem?_append_right (by omega), ← hl] at hy
    exact h' _ x y hx hy

theorem Fits.append {P : Book} {a b : List CT} {x y : List IV} (h : Fits P a x) (k : Fits P b y) : Fits P (a ++ b) (x ++ y) :=
  ⟨by simp [h.1, k.1], two_append h.1.symm h.2 k.2⟩
theorem Reps.append {φ : Nat → Nat} {w : World} {x y : List IV} {a b : List Value} (h : Reps φ w x a) (k : Reps φ w y b) : Reps φ w (x ++ y) (a ++ b) :=
  ⟨by simp [h.1, k.1], two_append h.1 h.2 k.2⟩
theorem Fits.nil {P : Book} : Fits P [] [] := ⟨rfl, fun i c y h => by simp at h⟩
theorem Reps.nil {φ : Nat → Nat} {w : World} : Reps φ w [] [] := ⟨rfl, fun i c y h => by simp at h⟩
theorem Fits.one {P : Book} {c : CT} {x : IV} (h : Fit P c x) : Fits P [c] [x] := ⟨rfl, fun i c' y h1 h2 => by
  cases i with
  | zero => simp at h1 h2; subst h1; subst h2; exact h
  | succ i => simp at h1⟩
theorem Reps.one {φ : Nat → Nat} {w : World} {x : IV} {v : Value} (h : RepI φ w x v) : Reps φ w [x] [v] := ⟨rfl, fun i c' y h1 h2 => by
  cases i with
  | zero => simp at h1 h2; subst h1; subst h2; exact h
  | succ i => simp at h1⟩

/-- what is laid at a call: each block's cells -/
def sizes (w : World) (b : Nat) : Nat := match w.heap[b]? with
  | some (.cells c _ _) => c.size
  | _ => 0
theorem sizes_new {w : World} {b : Nat} (h : w.heap.size ≤ b) : sizes w b = 0 := by
  have : w.heap[b]? = none := by simpa using h
  simp [sizes, this]
theorem sizes_cell {w : World} {b o : Nat} {v : Value} (h : w.cell? ⟨b, o, none⟩ = some v) : o < sizes w b := by
  unfold World.cell? at h
  unfold sizes
  split at h
  · rename_i c _ _ hc
    simp only at hc
    rw [hc]
    simp at h
    exact (Array.getElem?_eq_some_iff.1 h).1
  · cases h

section
variable {H : Type} {enc : TypeId × Value → H} {P : Program} {w : World}

def bulkAll (f : DataW H → Nat) (ds : List (DataW H)) : Nat := (ds.map f).foldr (· + ·) 0

/-- a measure of data of which the size of what is read is a part -/
structure Bulk (f : DataW H → Nat) : Prop where
  str : ∀ s : List UInt8, s.length + 1 ≤ f (.lit (.string s))
  lit : ∀ l : Lit, 1 ≤ f (.lit l)
  nil : 1 ≤ f .nil
  slice : ∀ es sp : List (DataW H), bulkAll f es + 1 ≤ f (.slice es sp)
  agg : ∀ es : List (DataW H), bulkAll f es ≤ f (.agg es)

theorem exists_list {α : Type} {R : Nat → α → Prop} : ∀ (n : Nat), (∀ i, i < n → ∃ x, R i x) → ∃ l : List α, l.length = n ∧ ∀ (i : Nat) (x : α), l[i]? = some x → R i x
  | 0, _ => ⟨[], rfl, fun i x h => by simp at h⟩
  | n + 1, h => by
    obtain ⟨l, hl, hr⟩ := exists_list n (fun i hi => h i (by omega))
    obtain ⟨x, hx⟩ := h n (by omega)
    refine ⟨l ++ [x], by simp [hl], fun i y hy => ?_⟩
    by_cases hi : i < l.length
    · rw [List.getElem?_append_left hi] at hy; exact hr i y hy
    · rw [List.getElem?_append_right (by omega)] at hy
      have : i - l.length = 0 := by
        have := (List.getElem?_eq_some_iff.1 hy).1
        simp at this; omega
      rw [this] at hy; simp at hy; subst hy
      have : i = n := by omega
      subst this; exact hx

theorem szss_le {f : DataW H → Nat} : ∀ {es : List (List IV)} {ys : List (DataW H)}, es.length = ys.length → (∀ (i : Nat) (e : List IV) (y : DataW H), es[i]? = some e → ys[i]? = some y → szs e ≤ f y) → szss es ≤ bulkAll f ys
  | [], ys, _, _ => by simp [szss]
  | e :: es, [], h, _ => by simp at h
  | e :: es, y :: ys, hl, h => by
    have h0 := h 0 e y rfl rfl
    have := szss_le (es := es) (ys := ys) (f := f) (by simpa using hl) (fun i e y h1 h2 => h (i + 1) e y (by simpa using h1) (by simpa using h2))
    simp [szss, bulkAll] at this ⊢; omega

theorem Book.get {T : Book} (hT : T.ok P = true) {e : TypeId} {n : Nat} {cts : List CT} (h : T.lookup e = some (n, cts)) : flat P 9 e = some cts ∧ P.cellsOf e = cts.length ∧ 0 < cts.length ∧ cts.all T.has = true ∧ P.bytesOf e = n := by
  have := List.all_eq_true.1 hT _ (lookup_mem h)
  simp only [Bool.and_eq_true, decide_eq_true_eq] at this
  exact ⟨this.1.1.1.1, this.1.1.1.2, this.1.1.2, this.1.2, this.2⟩

theorem weightsAll_get {e : TypeId} : ∀ {ds : List (DataW H)} {i : Nat} {d : DataW H}, ds[i]? = some d → (DataW.weightsAll P e ds).all (· ≤ reachBytes) = true → (DataW.weights P e d).all (· ≤ reachBytes) = true
  | [], i, d, h, _ => by simp at h
  | d0 :: ds, 0, d, h, hw => by
    simp only [DataW.weightsAll, List.all_append, Bool.and_eq_true] at hw
    simp at h; subst h; exact hw.1
  | d0 :: ds, i + 1, d, h, hw => by
    simp only [DataW.weightsAll, List.all_append, Bool.and_eq_true] at hw
    exact weightsAll_get (by simpa using h) hw.2
def wOk (P : Program) (t : TypeId) (d : DataW H) : Prop := (DataW.weights P t d).all (· ≤ reachBytes) = true

theorem open_cells {f : DataW H → Nat} (hf : Bulk f) {T : Book} (hT : T.ok P = true) : ∀ (fuel n : Nat) (t : TypeId) (cs : List Value) (x : DataW H × List MemPlace) (cts : List CT),
    DataW.trod enc P w 0 (fun _ => true) true fuel t cs = some x → flat P n t = some cts → cts.all T.has = true → wOk P t x.1 →
    ∃ xs : List IV, Fits T cts xs ∧ Reps (sizes w) w xs cs ∧ szs xs ≤ f x.1 := by
  intro fuel
  induction fuel with
  | zero => intro n t cs x cts h; simp [DataW.trod] at h
  | succ fuel ih =>
    intro n t cs x cts h hfl hin hwt
    cases n with
    | zero => simp [flat] at hfl
    | succ n =>
      unfold flat at hfl
      split at hfl
      · rename_i hu
        obtain ⟨b, rfl, rfl⟩ := DataW.trod_bool hu h
        cases hfl
        exact ⟨[.im (.bool b)], .one .bool, .one (.im rfl), by simp [szs, IV.sz, hf.lit]⟩
      · rename_i k hu
        obtain ⟨m, rfl, rfl, hw⟩ := DataW.trod_int hu h
        cases hfl
        exact ⟨[.im (.int k m)], .one (.int hw), .one (.im rfl), by simp [szs, IV.sz, hf.lit]⟩
      · rename_i hu
        obtain ⟨s, rfl, rfl, hw⟩ := DataW.trod_string hu h
        cases hfl
        have e : s.data.toList.length = s.size := Array.length_toList
        have hwl : s.size ≤ reachBytes := by simpa [wOk, DataW.weights, e] using hwt
        refine ⟨[.im (.string s)], .one (.str hwl), .one (.im rfl), ?_⟩
        have := hf.str s.data.toList
        simp only [szs, IV.sz, Nat.add_zero]
        rw [e] at this; exact this
      · rename_i e hu
        cases hfl
        simp only [List.all_cons, List.all_nil, Bool.and_true, Book.has] at hin
        obtain ⟨⟨bte, cte⟩, hcte⟩ := Option.isSome_iff_exists.1 hin
        obtain ⟨g1, g2, g3, g4, g5⟩ := Book.get hT hcte
        rcases DataW.trod_slice hu h with ⟨rfl, rfl⟩ | ⟨a, len, cap, elems, rest, n', hn', rfl, rfl, _, hlc, hcm, hel, hget, _, _⟩
        · exact ⟨[.sl []], .one (.sl (by simp) hcte (fun j x hx => by simp at hx) (fun j x i c y hx => by simp at hx)), .one .nil, by simp [szs, IV.sz, szss, hf.nil]⟩
        · obtain rfl : n' = fuel := by omega
          unfold wOk at hwt
          simp only [DataW.weights, hu, List.all_cons, List.all_append, Bool.and_eq_true, decide_eq_true_eq, g5, List.length_map] at hwt
          obtain ⟨hw0, hw1, _⟩ := hwt
          have each : ∀ i, i < len → ∃ xv : List IV × List Value, Fits T cte xv.1 ∧ Reps (sizes w) w xv.1 xv.2 ∧ (∃ y, elems[i]? = some y ∧ szs xv.1 ≤ f y.1) ∧ xv.2.length = cte.length ∧ ∀ j, j < cte.length → w.cell? ((a.add (i * cte.length)).add j) = xv.2[j]? := by
            intro i hi
            have h1 := hget i hi
            have : i < elems.length := by omega
            rw [List.getElem?_eq_getElem this, g2] at h1
            obtain ⟨cs', hc1, hc2⟩ := Option.bind_eq_some_iff.1 h1
            obtain ⟨xs, k1, k2, k3⟩ := ih 9 e cs' _ cte hc2 g1 g4 (weightsAll_get (i := i) (by rw [List.getElem?_map, List.getElem?_eq_getElem this]; rfl) hw1)
            obtain ⟨_, hc3, hc4⟩ := World.cells?_some hc1
            exact ⟨(xs, cs'), k1, k2, ⟨_, List.getElem?_eq_getElem this, k3⟩, hc3, hc4⟩
          obtain ⟨l, hl, hr⟩ := exists_list len each
          have hes : (l.map (·.1)).length = len := by simp [hl]
          refine ⟨[.sl (l.map (·.1))], .one (.sl (by rw [hes, ← hel]; exact Nat.le_trans (Nat.mul_le_mul_right _ (Nat.le_add_right _ _)) hw0) hcte ?_ ?_), ?_, ?_⟩
          · intro j x hx
            simp only [List.getElem?_map, Option.map_eq_some_iff] at hx
            obtain ⟨xv, hxv, rfl⟩ := hx
            exact (hr j xv hxv).1.1
          · intro j x i c y hx hc hy
            simp only [List.getElem?_map, Option.map_eq_some_iff] at hx
            obtain ⟨xv, hxv, rfl⟩ := hx
            exact (hr j xv hxv).1.2 i c y hc hy
          · refine .one ?_
            by_cases h0 : len = 0
            · subst h0
              obtain rfl : l = [] := List.eq_nil_of_length_eq_zero hl
              exact .emp (fun h => by cases h) hcm
            · obtain ⟨xv0, hxv0⟩ : ∃ xv, l[0]? = some xv := ⟨_, List.getElem?_eq_getElem (by omega)⟩
              have hc0 := (hr 0 xv0 hxv0).2.2.2.2 0 g3
              have hl0 := (hr 0 xv0 hxv0).2.2.2.1
              rw [List.getElem?_eq_getElem (by omega)] at hc0
              obtain ⟨b, o, spot⟩ := a
              have hsp : spot = none := by simpa [Addr.add] using World.cell?_spot hc0
              subst hsp
              have hlen : len = (l.map (·.1)).length := hes.symm
              rw [hlen]
              refine .sl (k := cte.length) (fun i j => ((l.getD i ([], [])).2).getD j undef) (by omega) hcm ?_ ?_ ?_ ?_
              · intro i e' he
                simp only [List.getElem?_map, Option.map_eq_some_iff] at he
                obtain ⟨xv, hxv, rfl⟩ := he
                exact (hr i xv hxv).1.1
              all_goals
                intro i e' j x' he hx'
                simp only [List.getElem?_map, Option.map_eq_some_iff] at he
                obtain ⟨xv, hxv, rfl⟩ := he
                obtain ⟨q1, q2, q3, q4, q5⟩ := hr i xv hxv
                have hj : j < cte.length := by rw [← q1.1]; exact (List.getElem?_eq_some_iff.1 hx').1
                have hv : xv.2[j]? = some (xv.2.getD j undef) := by
                  rw [List.getD, List.getElem?_eq_getElem (by omega)]; rfl
                have hcell := q5 j hj
                rw [Addr.add_none, Addr.add_none, hv] at hcell
                have hgd : (l.getD i ([], [])) = xv := by rw [List.getD, hxv]; rfl
                try rw [hgd]
                first
                  | exact sizes_cell hcell
                  | exact hcell
                  | exact q2.2 j x' _ hx' hv
          · have h1 : szss (l.map (·.1)) ≤ bulkAll f (elems.map (·.1)) := szss_le (by simp [hl, hel]) (fun i e' y he hy => by
              simp only [List.getElem?_map, Option.map_eq_some_iff] at he hy
              obtain ⟨xv, hxv, rfl⟩ := he
              obtain ⟨y', hy', rfl⟩ := hy
              obtain ⟨_, _, ⟨y2, hy2, hle⟩, _, _⟩ := hr i xv hxv
              rw [hy'] at hy2; cases hy2; exact hle)
            have h2 := hf.slice (elems.map (·.1)) (rest.map (·.1))
            simp only [szs, IV.sz, Nat.add_zero]; omega
      · rename_i fs hu
        obtain ⟨xs, n', hn', rfl, hcl, hxl, hget⟩ := DataW.trod_struct hu h
        obtain rfl : n' = fuel := by omega
        have key : ∀ (fl : List Field) (yl : List (DataW H × List MemPlace)) (off : Nat) (cts : List CT), fl.length = yl.length → flatFs P (flat P n) fl off (P.cellsOf t) = some cts → cts.all T.has = true → off ≤ P.cellsOf t → (DataW.weightsEach P (fl.map (·.type)) (yl.map (·.1))).all (· ≤ reachBytes) = true →
            (∀ (i : Nat) (f : Field), fl[i]? = some f → DataW.trod enc P w 0 (fun _ => true) true n' f.type ((cs.drop f.offset).take (P.cellsOf f.type)) = yl[i]?) →
            ∃ zs : List IV, Fits T cts zs ∧ Reps (sizes w) w zs (cs.drop off) ∧ szs zs ≤ bulkAll f (yl.map (·.1)) := by
          intro fl
          induction fl with
          | nil =>
            intro yl off cts hlen hfs _ _ _ _
            obtain rfl : yl = [] := List.eq_nil_of_length_eq_zero hlen.symm
            unfold flatFs at hfs
            split at hfs
            · rename_i he
              cases hfs
              refine ⟨[], .nil, ?_, by simp [szs, bulkAll]⟩
              rw [List.drop_of_length_le (by omega)]; exact .nil
            · cases hfs
          | cons fd fl ihf =>
            intro yl off cts hlen hfs hin' hoff hwe hg
            cases yl with
            | nil => simp at hlen
            | cons y yl =>
              unfold flatFs at hfs
              split at hfs
              · rename_i c1 hc1
                split at hfs
                · rename_i hcond
                  obtain ⟨c2, hc2, rfl⟩ := Option.map_eq_some_iff.1 hfs
                  simp only [List.all_append, Bool.and_eq_true] at hin'
                  simp only [List.map_cons, DataW.weightsEach, List.all_append, Bool.and_eq_true] at hwe
                  have h0 := hg 0 fd rfl
                  rw [hcond.1, hcond.2] at h0
                  obtain ⟨z1, k1, k2, k3⟩ := ih n fd.type _ y c1 h0 hc1 hin'.1 hwe.1
                  have hz : c1.length = ((cs.drop off).take c1.length).length := k1.1.symm.trans k2.1
                  have hle : off + c1.length ≤ P.cellsOf t := by
                    simp at hz; omega
                  obtain ⟨z2, m1, m2, m3⟩ := ihf yl (off + c1.length) c2 (by simpa using hlen) hc2 hin'.2 hle hwe.2 (fun i fd' hfd => by simpa using hg (i + 1) fd' (by simpa using hfd))
                  refine ⟨z1 ++ z2, k1.append m1, ?_, ?_⟩
                  · have : cs.drop off = (cs.drop off).take c1.length ++ cs.drop (off + c1.length) := by
                      rw [← List.drop_drop, List.take_append_drop]
                    rw [this]; exact k2.append m2
                  · rw [szs_append]; simp [bulkAll] at m3 ⊢; omega
                · cases hfs
              · cases hfs
        obtain ⟨zs, q1, q2, q3⟩ := key fs.toList xs 0 cts (by simp [hxl]) hfl hin (Nat.zero_le _) (by simpa [wOk, DataW.weights, hu] using hwt) (fun i fd hfd => hget i fd (by simpa using hfd))
        exact ⟨zs, q1, by simpa using q2, Nat.le_trans q3 (hf.agg _)⟩
      · cases hfl
end
end Go.Abs
