/- A logic of abstract states, part 22: a contract under other names of its objects. Conditions: the renaming has an inverse; over any program. -/
import Derived.Test.YtanlhpdjgelehaaC1
namespace Go.Abs
open Go.RowKit (Below)
set_option linter.unusedVariables false

mutual
def AV.ren (π : Nat → Nat) : AV → AV
  | .row i es => .row (π i) es
  | .ptr i o => .ptr (π i) o
  | .bsl i o n c => .bsl (π i) o n c
  | .bsh i o n k => .bsh (π i) o n k
  | .agg cs => .agg (AV.rens π cs)
  | .tup cs => .tup (AV.rens π cs)
  | .fn f cs => .fn f (AV.rens π cs)
  | .opt b v => .opt b (AV.ren π v)
  | .any => .any
  | .iv x => .iv x
  | .nils => .nils
  | .el cs => .el cs
def AV.rens (π : Nat → Nat) : List AV → List AV
  | [] => []
  | c :: cs => AV.ren π c :: AV.rens π cs
end
theorem AV.rens_map {π : Nat → Nat} : ∀ cs : List AV, AV.rens π cs = cs.map (AV.ren π)
  | [] => by simp [AV.rens]
  | c :: cs => by simp [AV.rens, AV.rens_map cs]

def Env.of (π : Nat → Nat) (E : Env) : Env := ⟨E.φ, fun i => E.ρ (π i), fun i => E.η (π i)⟩

mutual
theorem RepA.unren {π : Nat → Nat} {E : Env} {w : World} : ∀ (v : AV) {u : Value}, RepA E w (v.ren π) u → RepA (E.of π) w v u
  | .any, u, _ => .any
  | .iv x, u, h => by simp only [AV.ren] at h; cases h with | iv h => exact .iv h
  | .nils, u, h => by simp only [AV.ren] at h; cases h; exact .nils
  | .el cs, u, h => by simp only [AV.ren] at h; cases h with | el f hc hr => exact .el f hc hr
  | .row i es, u, h => by simp only [AV.ren] at h; cases h with | row hu h => exact .row hu h
  | .ptr i o, u, h => by simp only [AV.ren] at h; cases h with | ptr hu => exact .ptr hu
  | .bsl i o n c, u, h => by simp only [AV.ren] at h; cases h with | bsl hn hm ho hu => exact .bsl hn hm ho hu
  | .bsh i o n k, u, h => by simp only [AV.ren] at h; cases h with | bsh hn hm he ho hu => exact .bsh hn hm he ho hu
  | .agg cs, u, h => by
    simp only [AV.ren] at h
    cases h with
    | agg hl h1 h => obtain ⟨e1, e2⟩ := RepA.unrens cs hl h; exact .agg e1 h1 e2
  | .tup cs, u, h => by
    simp only [AV.ren] at h
    cases h with
    | tup hl h => obtain ⟨e1, e2⟩ := RepA.unrens cs hl h; exact .tup e1 e2
  | .fn f cs, u, h => by
    simp only [AV.ren] at h
    cases h with
    | fn hl h => obtain ⟨e1, e2⟩ := RepA.unrens cs hl h; exact .fn e1 e2
  | .opt b v, u, h => by
    simp only [AV.ren] at h
    cases h with
    | optT h => exact .optT (RepA.unren v h)
    | optF => exact .optF
theorem RepA.unrens {π : Nat → Nat} {E : Env} {w : World} : ∀ (cs : List AV) {us : List Value}, us.length = (AV.rens π cs).length → (∀ (i : Nat) (c : AV) (u : Value), (AV.rens π cs)[i]? = some c → us[i]? = some u → RepA E w c u) →
    us.length = cs.length ∧ ∀ (i : Nat) (c : AV) (u : Value), cs[i]? = some c → us[i]? = some u → RepA (E.of π) w c u
  | [], us, hl, h => ⟨by simpa [AV.rens] using hl, fun i c u hc => by simp at hc⟩
  | c :: cs, [], hl, h => by simp [AV.rens] at hl
  | c :: cs, u :: us, hl, h => by
    obtain ⟨e1, e2⟩ := RepA.unrens cs (us := us) (by simpa [AV.rens] using hl) (fun i c u hc hu => h (i + 1) c u (by simpa [AV.rens] using hc) (by simpa using hu))
    refine ⟨by simp [e1], fun i c' u' hc hu => ?_⟩
    cases i with
    | zero => simp at hc hu; subst hc; subst hu; exact RepA.unren c (h 0 _ u (by simp [AV.rens]) rfl)
    | succ i => exact e2 i c' u' (by simpa using hc) (by simpa using hu)
end
mutual
theorem RepA.doren {π : Nat → Nat} {E : Env} {w : World} : ∀ (v : AV) {u : Value}, RepA (E.of π) w v u → RepA E w (v.ren π) u
  | .any, u, _ => .any
  | .iv x, u, h => by simp only [AV.ren]; cases h with | iv h => exact .iv h
  | .nils, u, h => by simp only [AV.ren]; cases h; exact .nils
  | .el cs, u, h => by simp only [AV.ren]; cases h with | el f hc hr => exact .el f hc hr
  | .row i es, u, h => by simp only [AV.ren]; cases h with | row hu h => exact .row hu h
  | .ptr i o, u, h => by simp only [AV.ren]; cases h with | ptr hu => exact .ptr hu
  | .bsl i o n c, u, h => by simp only [AV.ren]; cases h with | bsl hn hm ho hu => exact .bsl hn hm ho hu
  | .bsh i o n k, u, h => by simp only [AV.ren]; cases h with | bsh hn hm he ho hu => exact .bsh hn hm he ho hu
  | .agg cs, u, h => by
    simp only [AV.ren]
    cases h with
    | agg hl h1 h => obtain ⟨e1, e2⟩ := RepA.dorens cs hl h; exact .agg e1 h1 e2
  | .tup cs, u, h => by
    simp only [AV.ren]
    cases h with
    | tup hl h => obtain ⟨e1, e2⟩ := RepA.dorens cs hl h; exact .tup e1 e2
  | .fn f cs, u, h => by
    simp only [AV.ren]
    cases h with
    | fn hl h => obtain ⟨e1, e2⟩ := RepA.dorens cs hl h; exact .fn e1 e2
  | .opt b v, u, h => by
    simp only [AV.ren]
    cases h with
    | optT h => exact .optT (RepA.doren v h)
    | optF => exact .optF
theorem RepA.dorens {π : Nat → Nat} {E : Env} {w : World} : ∀ (cs : List AV) {us : List Value}, us.length = cs.length → (∀ (i : Nat) (c : AV) (u : Value), cs[i]? = some c → us[i]? = some u → RepA (E.of π) w c u) →
    us.length = (AV.rens π cs).length ∧ ∀ (i : Nat) (c : AV) (u : Value), (AV.rens π cs)[i]? = some c → us[i]? = some u → RepA E w c u
  | [], us, hl, h => ⟨by simpa [AV.rens] using hl, fun i c u hc => by simp [AV.rens] at hc⟩
  | c :: cs, [], hl, h => by simp at hl
  | c :: cs, u :: us, hl, h => by
    obtain ⟨e1, e2⟩ := RepA.dorens cs (us := us) (by simpa using hl) (fun i c u hc hu => h (i + 1) c u (by simpa using hc) (by simpa using hu))
    refine ⟨by simp [AV.rens, e1], fun i c' u' hc hu => ?_⟩
    cases i with
    | zero => simp [AV.rens] at hc hu; subst hc; subst hu; exact RepA.doren c (h 0 _ u rfl rfl)
    | succ i => exact e2 i c' u' (by simpa [AV.rens] using hc) (by simpa using hu)
end

def Box.ren (π : Nat → Nat) (b : Box) : Box :=
  match b.c with
  | .l cs => ⟨b.ty, .l (AV.rens π cs)⟩
  | .r xs m => ⟨b.ty, .r xs m⟩
theorem Box.ren_ty {π : Nat → Nat} (b : Box) : (b.ren π).ty = b.ty := by obtain ⟨ty, c⟩ := b; cases c <;> rfl
theorem rens_iv {π : Nat → Nat} : ∀ xs : List IV, AV.rens π (xs.map .iv) = xs.map .iv
  | [] => by simp [AV.rens]
  | x :: xs => by simp [AV.rens, AV.ren, rens_iv xs]
theorem rens_any {π : Nat → Nat} : ∀ m : Nat, AV.rens π (List.replicate m .any) = List.replicate m .any
  | 0 => by simp [AV.rens]
  | m + 1 => by simp [List.replicate_succ, AV.rens, AV.ren, rens_any m]
theorem rens_app {π : Nat → Nat} (l m : List AV) : AV.rens π (l ++ m) = AV.rens π l ++ AV.rens π m := by simp [AV.rens_map]
theorem Box.ren_cs {π : Nat → Nat} (b : Box) : (b.ren π).cs = AV.rens π b.cs := by
  obtain ⟨ty, c⟩ := b
  cases c with
  | l cs => rfl
  | r xs m => simp only [Box.ren, Box.cs_r, rens_app, rens_iv, rens_any]
theorem Box.ren_ne {π : Nat → Nat} {b : Box} : (b.ren π).cs ≠ [] ↔ b.cs ≠ [] := by
  rw [Box.ren_cs, AV.rens_map]; simp

theorem BoxOk.unren {π : Nat → Nat} {E : Env} {w : World} {id : Nat} {b : Box} (h : BoxOk E w (π id) (b.ren π)) : BoxOk (E.of π) w id b := by
  obtain ⟨h0, arr, ha, hl, h1, hr, hη⟩ := h
  rw [Box.ren_ty] at ha
  rw [Box.ren_cs] at hl hr
  refine ⟨h0, arr, ha, by simpa [AV.rens_map] using hl, h1, fun i c u hc hu => ?_, hη⟩
  exact RepA.unren c (hr i _ u (by rw [AV.rens_map, List.getElem?_map, hc]; rfl) hu)
theorem BoxOk.doren {π : Nat → Nat} {E : Env} {w : World} {id : Nat} {b : Box} (h : BoxOk (E.of π) w id b) : BoxOk E w (π id) (b.ren π) := by
  obtain ⟨h0, arr, ha, hl, h1, hr, hη⟩ := h
  refine ⟨h0, arr, by rw [Box.ren_ty]; exact ha, by rw [Box.ren_cs]; simpa [AV.rens_map] using hl, h1, fun i c u hc hu => ?_, hη⟩
  rw [Box.ren_cs, AV.rens_map, List.getElem?_map, Option.map_eq_some_iff] at hc
  obtain ⟨c0, hc0, rfl⟩ := hc
  exact RepA.doren c0 (hr i c0 u hc0 hu)

def renB (π : Nat → Nat) (bx : List (Nat × Box)) : List (Nat × Box) := bx.map (fun p => (π p.1, p.2.ren π))
def renT (π : Nat → Nat) (tk : List (Nat × Tok)) : List (Nat × Tok) := tk.map (fun p => (π p.1, p.2))
theorem lookup_ren {β γ : Type} {π σ : Nat → Nat} (hσ : ∀ n, σ (π n) = n) (f : β → γ) : ∀ (l : List (Nat × β)) (i : Nat), (l.map (fun p => (π p.1, f p.2))).lookup (π i) = (l.lookup i).map f
  | [], i => rfl
  | (t, v) :: l, i => by
    by_cases e : i = t
    · subst e; simp [List.lookup]
    · have e1 : (i == t) = false := by simpa using e
      have e2 : (π i == π t) = false := by
        have : π i ≠ π t := fun h => e (by rw [← hσ i, h, hσ])
        simpa using this
      simpa [List.lookup, e1, e2] using lookup_ren hσ f l i
theorem lookup_ren' {β γ : Type} {π σ : Nat → Nat} (hσ : ∀ n, σ (π n) = n) (hπ : ∀ n, π (σ n) = n) (f : β → γ) (l : List (Nat × β)) (i : Nat) : (l.map (fun p => (π p.1, f p.2))).lookup i = (l.lookup (σ i)).map f := by
  rw [← hπ i, lookup_ren hσ f l (σ i), hσ]

/-- a contract says the same of objects of other names -/
theorem CallA.ren {P : Program} {f : FuncId} {args : List AV} {bx bx' : List (Nat × Box)} {tk' : List (Nat × Tok)} {res : AV} (π σ : Nat → Nat) (hσ : ∀ n, σ (π n) = n) (hπ : ∀ n, π (σ n) = n) (h : CallA P f args bx bx' tk' res) :
    CallA P f (AV.rens π args) (renB π bx) (renB π bx') (renT π tk') (res.ren π) := by
  intro E w us hrel hh
  have hπσ : ∀ i, π i = i ∨ True := fun _ => .inr trivial
  have hlk : ∀ (i : Nat) (b : Box), bx.lookup i = some b → (renB π bx).lookup (π i) = some (b.ren π) := fun i b hb => by
    unfold renB; rw [lookup_ren hσ (Box.ren π), hb]; rfl
  have hlu : ∀ (i : Nat) (b : Box), (renB π bx').lookup i = some b → ∃ b0, bx'.lookup (σ i) = some b0 ∧ b0.ren π = b := fun i b hb => by
    unfold renB at hb; rw [lookup_ren' hσ hπ (Box.ren π), Option.map_eq_some_iff] at hb; exact hb
  have hlt : ∀ (i : Nat) (t : Tok), (renT π tk').lookup i = some t → tk'.lookup (σ i) = some t := fun i t ht => by
    unfold renT at ht
    have := lookup_ren' hσ hπ (fun t : Tok => t) tk' i
    rw [this] at ht; simpa using ht
  have hargs : RelL (E.of π) w args us := by
    obtain ⟨e1, e2⟩ := RepA.unrens args hrel.1 hrel.2
    exact ⟨e1, e2⟩
  have hM : ∀ g, Ctx.M ⟨0, w, E.of π, keys bx⟩ g ↔ Ctx.M ⟨0, w, E, keys (renB π bx)⟩ g := fun g => by
    constructor
    · rintro ⟨id, hid, e1, e2⟩
      refine ⟨π id, ?_, e1, e2⟩
      simp only [keys, renB, List.map_map, List.mem_map] at hid ⊢
      obtain ⟨p, hp, rfl⟩ := hid
      exact ⟨p, hp, rfl⟩
    · rintro ⟨id, hid, e1, e2⟩
      simp only [keys, renB, List.map_map, List.mem_map] at hid
      obtain ⟨p, hp, rfl⟩ := hid
      exact ⟨p.1, List.mem_map.2 ⟨p, hp, rfl⟩, e1, e2⟩
  have hin : HInv ⟨0, w, E.of π, keys bx⟩ (E.of π) bx [] w := by
    refine ⟨fun i b hb hn => ?_, fun i t ht => by simp at ht, fun i j b b' hi hj hn hn' he => ?_, fun i j t t' g hi => by simp at hi, fun i j b t hi hn hj => by simp at hj, fun i b hb hn => ?_, fun j t g hj => by simp at hj, hh.new, fun _ _ => rfl, fun i hi => ⟨rfl, rfl, ?_⟩, KeptBut.refl _ _⟩
    · exact (hh.box (π i) _ (hlk i b hb) (Box.ren_ne.2 hn)).unren
    · have := hh.bb (π i) (π j) _ _ (hlk i b hi) (hlk j b' hj) (Box.ren_ne.2 hn) (Box.ren_ne.2 hn') he
      rw [← hσ i, this, hσ]
    · rcases hh.own (π i) _ (hlk i b hb) (Box.ren_ne.2 hn) with h | h
      · exact .inl h
      · exact .inr ((hM _).2 h)
    · obtain ⟨b, hb⟩ := mem_keys hi; show (List.lookup i bx).isSome = true; rw [hb]; rfl
  refine (h (E.of π) w us hargs hin).mono ?_
  rintro e w' ⟨u, E1, he, hu, ho⟩
  have hE : (Env.of π ⟨E1.φ, fun i => E1.ρ (σ i), fun i => E1.η (σ i)⟩) = E1 := by simp [Env.of, hσ]
  have hEof : ∀ i, (⟨E1.φ, fun i => E1.ρ (σ i), fun i => E1.η (σ i)⟩ : Env).ρ (π i) = E1.ρ i := fun i => by simp [hσ]
  refine ⟨u, ⟨E1.φ, fun i => E1.ρ (σ i), fun i => E1.η (σ i)⟩, he, RepA.doren res (by rw [hE]; exact hu), ?_⟩
  refine ⟨fun i b hb hn => ?_, fun i t ht => ?_, fun i j b b' hi hj hn hn' he => ?_, fun i j t t' g hi hj h1 h2 => ?_, fun i j b t hi hn hj => ?_, fun i b hb hn => ?_, fun j t g hj hg => ?_, ho.new, fun b hb => ho.old b hb, fun i hi => ?_, ?_⟩
  · obtain ⟨b0, h0, rfl⟩ := hlu i b hb
    have := BoxOk.doren (π := π) (E := ⟨E1.φ, fun i => E1.ρ (σ i), fun i => E1.η (σ i)⟩) (by rw [hE]; exact ho.box (σ i) b0 h0 (Box.ren_ne.1 hn))
    rw [hπ] at this; exact this
  · exact ho.tok (σ i) t (hlt i t ht)
  · obtain ⟨b0, h0, rfl⟩ := hlu i b hi
    obtain ⟨b1, h1, rfl⟩ := hlu j b' hj
    have := ho.bb (σ i) (σ j) b0 b1 h0 h1 (Box.ren_ne.1 hn) (Box.ren_ne.1 hn') he
    rw [← hπ i, this, hπ]
  · have := ho.tt (σ i) (σ j) t t' g (hlt i t hi) (hlt j t' hj) h1 h2
    rw [← hπ i, this, hπ]
  · obtain ⟨b0, h0, rfl⟩ := hlu i b hi
    exact ho.bt (σ i) (σ j) b0 t h0 (Box.ren_ne.1 hn) (hlt j t hj)
  · obtain ⟨b0, h0, rfl⟩ := hlu i b hb
    rcases ho.own (σ i) b0 h0 (Box.ren_ne.1 hn) with h | h
    · exact .inl h
    · exact .inr ((hM _).1 h)
  · exact ho.ownt (σ j) t g (hlt j t hj) hg
  · simp only [keys, renB, List.map_map, List.mem_map] at hi
    obtain ⟨p, hp, rfl⟩ := hi
    obtain ⟨e1, e2, e3⟩ := ho.ins p.1 (List.mem_map.2 ⟨p, hp, rfl⟩)
    refine ⟨by simpa [hσ, Env.of] using e1, by simpa [hσ, Env.of] using e2, ?_⟩
    obtain ⟨b, hb⟩ := Option.isSome_iff_exists.1 e3
    show (List.lookup (π p.1) (renB π bx')).isSome = true
    unfold renB; rw [lookup_ren hσ (Box.ren π), hb]; rfl
  · exact ⟨ho.kept.os, ho.kept.tape, ho.kept.output, ho.kept.size, fun k hk hm => ho.kept.block k hk (fun hM' => hm ((hM k).1 hM'))⟩

/-- two names turned -/
def sw (a b n : Nat) : Nat := if n = a then b else if n = b then a else n
theorem sw_sw (a b n : Nat) : sw a b (sw a b n) = n := by
  unfold sw; split <;> split <;> (try split) <;> omega
/-- names a1.. for b1.. -/
def sws : List (Nat × Nat) → Nat → Nat
  | [], n => n
  | (a, b) :: r, n => sw (sws r a) b (sws r n)
def swsI : List (Nat × Nat) → Nat → Nat
  | [], n => n
  | (a, b) :: r, n => swsI r (sw (sws r a) b n)
theorem swsI_sws : ∀ (l : List (Nat × Nat)) (n : Nat), swsI l (sws l n) = n
  | [], n => rfl
  | (a, b) :: r, n => by simp only [sws, swsI, sw_sw, swsI_sws r n]
theorem sws_swsI : ∀ (l : List (Nat × Nat)) (n : Nat), sws l (swsI l n) = n
  | [], n => rfl
  | (a, b) :: r, n => by simp only [sws, swsI, sws_swsI r, sw_sw]
theorem sws_hd (a b : Nat) (r : List (Nat × Nat)) : sws ((a, b) :: r) a = b := by simp [sws, sw]
theorem sws_tl {a b n m : Nat} {r : List (Nat × Nat)} (hn : n ≠ a) (h : sws r n = m) (hb : m ≠ b) : sws ((a, b) :: r) n = m := by
  have : sws r n ≠ sws r a := fun e => hn (by rw [← swsI_sws r n, e, swsI_sws])
  rw [h] at this
  simp only [sws, sw, h]
  rw [if_neg this, if_neg hb]
theorem CallA.sws {P : Program} {f : FuncId} {args args2 : List AV} {bx bx' bx2 bx2' : List (Nat × Box)} {tk' tk2' : List (Nat × Tok)} {res res2 : AV} (l : List (Nat × Nat)) (h : CallA P f args bx bx' tk' res)
    (h1 : AV.rens (Abs.sws l) args = args2) (h2 : renB (Abs.sws l) bx = bx2) (h3 : renB (Abs.sws l) bx' = bx2') (h4 : renT (Abs.sws l) tk' = tk2') (h5 : res.ren (Abs.sws l) = res2) : CallA P f args2 bx2 bx2' tk2' res2 := by
  subst h1; subst h2; subst h3; subst h4; subst h5
  exact h.ren _ _ (swsI_sws l) (sws_swsI l)

mutual
theorem AV.ren_id {π : Nat → Nat} : ∀ v : AV, AV.mentIn [] v = true → v.ren π = v
  | .any, _ => rfl
  | .iv _, _ => rfl
  | .nils, _ => rfl
  | .el _, _ => rfl
  | .row i _, h => by simp [AV.mentIn] at h
  | .ptr i _, h => by simp [AV.mentIn] at h
  | .bsl i _ _ _, h => by simp [AV.mentIn] at h
  | .bsh i _ _ _, h => by simp [AV.mentIn] at h
  | .agg cs, h => by rw [AV.ren, AV.rens_id cs (by simpa [AV.mentIn] using h)]
  | .tup cs, h => by rw [AV.ren, AV.rens_id cs (by simpa [AV.mentIn] using h)]
  | .fn _ cs, h => by rw [AV.ren, AV.rens_id cs (by simpa [AV.mentIn] using h)]
  | .opt _ v, h => by rw [AV.ren, AV.ren_id v (by simpa [AV.mentIn] using h)]
theorem AV.rens_id {π : Nat → Nat} : ∀ vs : List AV, AV.mentsIn [] vs = true → AV.rens π vs = vs
  | [], _ => rfl
  | v :: vs, h => by
    simp only [AV.mentsIn, Bool.and_eq_true] at h
    rw [AV.rens, AV.ren_id v h.1, AV.rens_id vs h.2]
end
end Go.Abs
