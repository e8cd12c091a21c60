/- A logic of abstract states, part 9: calls by contract, entering a function, returning, branches, loops. Conditions: each rule's own premises; over any program. -/
import Derived.Test.YtanlhpdjgelehaaDoorA8
namespace Go.Abs
open Go.RowKit (Below)
set_option linter.unusedVariables false

mutual
/-- it speaks of objects in l alone -/
def AV.mentIn (l : List Nat) : AV → Bool
  | .any | .iv _ | .nils | .el _ => true
  | .row i _ => l.contains i
  | .ptr i _ => l.contains i
  | .agg cs => AV.mentsIn l cs
  | .tup cs => AV.mentsIn l cs
  | .fn _ cs => AV.mentsIn l cs
  | .opt _ v => AV.mentIn l v
def AV.mentsIn (l : List Nat) : List AV → Bool
  | [] => true
  | c :: cs => AV.mentIn l c && AV.mentsIn l cs
end
mutual
theorem AV.mentIn_mem {l : List Nat} {id : Nat} : ∀ (v : AV), AV.mentIn l v = true → AV.ment id v = true → id ∈ l
  | .any, _, h => by simp [AV.ment] at h
  | .iv _, _, h => by simp [AV.ment] at h
  | .nils, _, h => by simp [AV.ment] at h
  | .el _, _, h => by simp [AV.ment] at h
  | .row i _, h1, h => by simp [AV.ment] at h; subst h; simpa [AV.mentIn] using h1
  | .ptr i _, h1, h => by simp [AV.ment] at h; subst h; simpa [AV.mentIn] using h1
  | .agg cs, h1, h => AV.mentsIn_mem cs (by simpa [AV.mentIn] using h1) (by simpa [AV.ment] using h)
  | .tup cs, h1, h => AV.mentsIn_mem cs (by simpa [AV.mentIn] using h1) (by simpa [AV.ment] using h)
  | .fn _ cs, h1, h => AV.mentsIn_mem cs (by simpa [AV.mentIn] using h1) (by simpa [AV.ment] using h)
  | .opt _ v, h1, h => AV.mentIn_mem v (by simpa [AV.mentIn] using h1) (by simpa [AV.ment] using h)
theorem AV.mentsIn_mem {l : List Nat} {id : Nat} : ∀ (cs : List AV), AV.mentsIn l cs = true → AV.ments id cs = true → id ∈ l
  | [], _, h => by simp [AV.ments] at h
  | c :: cs, h1, h => by
    simp only [AV.mentsIn, Bool.and_eq_true] at h1
    simp only [AV.ments, Bool.or_eq_true] at h
    rcases h with h | h
    · exact AV.mentIn_mem c h1.1 h
    · exact AV.mentsIn_mem cs h1.2 h
end

def keys {β : Type} (l : List (Nat × β)) : List Nat := l.map (·.1)
theorem mem_keys {β : Type} : ∀ {l : List (Nat × β)} {id : Nat}, id ∈ keys l → ∃ b, l.lookup id = some b
  | [], id, h => by simp [keys] at h
  | (t, u) :: l, id, h => by
    by_cases e : id = t
    · exact ⟨u, by rw [e]; exact lookup_cons_eq⟩
    · rw [lookup_cons_ne e]
      exact mem_keys (by simp only [keys, List.map_cons, List.mem_cons] at h ⊢; exact h.resolve_left e)
theorem keys_mem {β : Type} {l : List (Nat × β)} {id : Nat} {b : β} (h : l.lookup id = some b) : id ∈ keys l := List.mem_map.2 ⟨_, lookup_mem h, rfl⟩

/-- THE CONTRACT of function f: called with args, where the boxes bx stand, it hands back res, and then bx', tk' stand -/
def CallA (P : Program) (f : FuncId) (args : List AV) (bx bx' : List (Nat × Box)) (tk' : List (Nat × Tok)) (res : AV) : Prop :=
  ∀ (E : Env) (w : World) (us : List Value), RelL E w args us → HInv ⟨0, w, E, keys bx⟩ E bx [] w →
    Calls P f us.toArray w fun e w' => ∃ (u : Value) (E' : Env), e = .returned u ∧ RepA E' w' res u ∧ HInv ⟨0, w, E, keys bx⟩ E' bx' tk' w'

def Post (c : Ctx) (bx' : List (Nat × Box)) (tk' : List (Nat × Tok)) (res : AV) (e : Ending) (w' : World) : Prop :=
  ∃ (u : Value) (E' : Env), e = .returned u ∧ RepA E' w' res u ∧ HInv c E' bx' tk' w'

/-- the callee's memory beside the caller's -/
theorem HInv.join {c : Ctx} {E E' : Env} {st : St} {w w' : World} {bxi bxo : List (Nat × Box)} {tko : List (Nat × Tok)} (h : HInv c E st.bx st.tk w) (h' : HInv ⟨0, w, E, keys bxi⟩ E' bxo tko w')
    {N : List Nat} (hN : ∀ id ∈ N, st.fresh id = true) (hbi : ∀ id ∈ keys bxi, ∃ b, st.bx.lookup id = some b) (hbo : ∀ id ∈ keys bxo, id ∈ N ∨ id ∈ keys bxi) (hto : ∀ id ∈ keys tko, id ∈ N)
    (hm : ∀ (id : Nat) (b : Box), bxo.lookup id = some b → AV.mentsIn (N ++ keys bxi) b.cs = true) :
    HInv c ⟨E'.φ, fun i => if i ∈ N then E'.ρ i else E.ρ i, fun i => if i ∈ N then E'.η i else E.η i⟩ (bxo ++ st.bx) (tko ++ st.tk) w' ∧
      (∀ (x : AV) (u : Value), AV.mentIn (N ++ keys bxi) x = true → RepA E' w' x u → RepA ⟨E'.φ, fun i => if i ∈ N then E'.ρ i else E.ρ i, fun i => if i ∈ N then E'.η i else E.η i⟩ w' x u) ∧
      (∀ (x : AV) (u : Value), (∀ id ∈ N, AV.ment id x = false) → RepA E w x u → RepA ⟨E'.φ, fun i => if i ∈ N then E'.ρ i else E.ρ i, fun i => if i ∈ N then E'.η i else E.η i⟩ w' x u) := by
  -- passed boxes
  have hbN : ∀ (i : Nat) (b : Box), st.bx.lookup i = some b → i ∉ N := fun i b hb hi => (St.fresh_bx (hN i hi) hb).1 rfl
  have htN : ∀ (i : Nat) (t : Tok), st.tk.lookup i = some t → i ∉ N := fun i t ht hi => St.fresh_tk (hN i hi) ht rfl
  have hMi : ∀ g, Ctx.M ⟨0, w, E, keys bxi⟩ g → ∃ (id : Nat) (b : Box), id ∈ keys bxi ∧ st.bx.lookup id = some b ∧ E.ρ id = g := fun g ⟨id, hid, e⟩ => by
    obtain ⟨b, hb⟩ := hbi id hid; exact ⟨id, b, hid, hb, e⟩
  have hφM : ∀ g, Ctx.M ⟨0, w, E, keys bxi⟩ g → E.φ g = 0 := fun g hg => by
    obtain ⟨id, b, _, hb, rfl⟩ := hMi g hg; exact (h.box id b hb).1
  have hkp : Keeps E.φ w w' := fun b o ho => by
    have hlt : b < w.heap.size := by
      rcases Nat.lt_or_ge b w.heap.size with h1 | h1
      · exact h1
      · rw [h.new b h1] at ho; cases ho
    have hnM : ¬ Ctx.M ⟨0, w, E, keys bxi⟩ b := fun hM => by rw [hφM b hM] at ho; cases ho
    exact World.cell?_of_block (h'.kept.block b hlt hnM)
  have hle : ∀ b, E.φ b ≤ E'.φ b := fun b => by
    rcases Nat.lt_or_ge b w.heap.size with h1 | h1
    · rw [h'.old b h1]; exact Nat.le_refl _
    · rw [h.new b h1]; exact Nat.zero_le _
  have monoC : ∀ (x : AV) (u : Value), (∀ id ∈ N, AV.ment id x = false) → RepA E w x u → RepA ⟨E'.φ, fun i => if i ∈ N then E'.ρ i else E.ρ i, fun i => if i ∈ N then E'.η i else E.η i⟩ w' x u := fun x u hx hr =>
    RepA.mono (h := hr) (E' := ⟨E'.φ, fun i => if i ∈ N then E'.ρ i else E.ρ i, fun i => if i ∈ N then E'.η i else E.η i⟩) hkp hle (fun id hid => by
      have : id ∉ N := fun hin => by rw [hx id hin] at hid; cases hid
      simp [this])
  have monoN : ∀ (x : AV) (u : Value), AV.mentIn (N ++ keys bxi) x = true → RepA E' w' x u → RepA ⟨E'.φ, fun i => if i ∈ N then E'.ρ i else E.ρ i, fun i => if i ∈ N then E'.η i else E.η i⟩ w' x u := fun x u hx hr =>
    RepA.mono (E := E') (w := w') (h := hr) (E' := ⟨E'.φ, fun i => if i ∈ N then E'.ρ i else E.ρ i, fun i => if i ∈ N then E'.η i else E.η i⟩) (fun _ _ _ => rfl) (fun _ => Nat.le_refl _) (fun id hid => by
      by_cases hin : id ∈ N
      · simp [hin]
      · have hmem := AV.mentIn_mem x hx hid
        have hk : id ∈ keys bxi := (List.mem_append.1 hmem).resolve_left hin
        obtain ⟨e1, e2, _⟩ := h'.ins id hk
        simp [hin, e1, e2])
  have hρo : ∀ (i : Nat) (b : Box), bxo.lookup i = some b → (if i ∈ N then E'.ρ i else E.ρ i) = E'.ρ i := fun i b hb => by
    by_cases hin : i ∈ N
    · simp [hin]
    · have hk := (hbo i (keys_mem hb)).resolve_left hin
      simp [hin, (h'.ins i hk).1]
  have hηo : ∀ (i : Nat) (t : Tok), tko.lookup i = some t → (if i ∈ N then E'.η i else E.η i) = E'.η i := fun i t ht => by simp [hto i (keys_mem ht)]
  have hρc : ∀ (i : Nat) (b : Box), st.bx.lookup i = some b → (if i ∈ N then E'.ρ i else E.ρ i) = E.ρ i := fun i b hb => by simp [hbN i b hb]
  have hηc : ∀ (i : Nat) (t : Tok), st.tk.lookup i = some t → (if i ∈ N then E'.η i else E.η i) = E.η i := fun i t ht => by simp [htN i t ht]
  have splitB : ∀ (i : Nat) (b : Box), (bxo ++ st.bx).lookup i = some b → bxo.lookup i = some b ∨ (bxo.lookup i = none ∧ st.bx.lookup i = some b) := fun i b hb => by
    rw [List.lookup_append] at hb
    cases hq : bxo.lookup i with
    | none => rw [hq] at hb; exact .inr ⟨rfl, by simpa using hb⟩
    | some b' => rw [hq] at hb; exact .inl (by simpa using hb)
  have splitT : ∀ (i : Nat) (t : Tok), (tko ++ st.tk).lookup i = some t → tko.lookup i = some t ∨ st.tk.lookup i = some t := fun i t ht => by
    rw [List.lookup_append] at ht
    cases hq : tko.lookup i with
    | none => rw [hq] at ht; exact .inr (by simpa using ht)
    | some b' => rw [hq] at ht; exact .inl (by simpa using ht)
  have notPassed : ∀ (i : Nat), bxo.lookup i = none → i ∉ keys bxi := fun i hn hk => by
    have := (h'.ins i hk).2.2; rw [hn] at this; cases this
  have blkB : ∀ (i : Nat) (b : Box), bxo.lookup i = none → st.bx.lookup i = some b → E.ρ i < w.heap.size ∧ ¬ Ctx.M ⟨0, w, E, keys bxi⟩ (E.ρ i) := fun i b hn hb =>
    ⟨box_lt (h.box i b hb), fun hM => by
      obtain ⟨id, b', hid, hb', e⟩ := hMi _ hM
      exact notPassed i hn (h.bb id i b' b hb' hb e ▸ hid)⟩
  have blkT : ∀ (i : Nat) (t : Tok) (g : Nat), st.tk.lookup i = some t → (E.η i).ownBlock = some g → g < w.heap.size ∧ ¬ Ctx.M ⟨0, w, E, keys bxi⟩ g := fun i t g ht hg =>
    ⟨ownBlock_lt (h.tok i t ht) hg, fun hM => by
      obtain ⟨id, b', hid, hb', e⟩ := hMi _ hM
      exact h.bt id i b' t hb' ht (by rw [hg, e])⟩
  have blkO : ∀ (i : Nat) (b : Box), bxo.lookup i = some b → w.heap.size ≤ E'.ρ i ∨ Ctx.M ⟨0, w, E, keys bxi⟩ (E'.ρ i) := fun i b hb => h'.own i b hb
  have blkOT : ∀ (i : Nat) (t : Tok) (g : Nat), tko.lookup i = some t → (E'.η i).ownBlock = some g → w.heap.size ≤ g := fun i t g ht hg => h'.ownt i t g ht hg
  refine ⟨⟨fun i b hb => ?_, fun i t ht => ?_, fun i j b b' hi hj he => ?_, fun i j t t' g hi hj h1 h2 => ?_, fun i j b t hb ht hg => ?_, fun i b hb => ?_, fun j t g ht hg => ?_, h'.new, fun b hb => ?_, fun i hin => ?_, ?_⟩, monoN, monoC⟩
  · rcases splitB i b hb with hb | ⟨hn, hb⟩
    · obtain ⟨h0, arr, ha, hl, h1, hr⟩ := h'.box i b hb
      refine ⟨by simp only; rw [hρo i b hb]; exact h0, arr, by simp only; rw [hρo i b hb]; exact ha, hl, h1, fun k x u hx hu => monoN x u ?_ (hr k x u hx hu)⟩
      have hall := hm i b hb
      clear ha hl h1 hr h0
      have : ∀ (cs : List AV) (k : Nat), AV.mentsIn (N ++ keys bxi) cs = true → cs[k]? = some x → AV.mentIn (N ++ keys bxi) x = true := by
        intro cs
        induction cs with
        | nil => intro k _ h; simp at h
        | cons y ys ih =>
          intro k hall hk
          simp only [AV.mentsIn, Bool.and_eq_true] at hall
          cases k with
          | zero => simp at hk; subst hk; exact hall.1
          | succ k => exact ih k hall.2 (by simpa using hk)
      exact this b.cs k hall hx
    · obtain ⟨hlt, hnM⟩ := blkB i b hn hb
      obtain ⟨h0, arr, ha, hl, h1, hr⟩ := h.box i b hb
      refine ⟨by simp only; rw [hρc i b hb, h'.old _ hlt]; exact h0, arr, by simp only; rw [hρc i b hb, h'.kept.block _ hlt hnM]; exact ha, hl, h1, fun k x u hx hu => monoC x u (fun id hid => AV.ments_false (St.fresh_bx (hN id hid) hb).2 k x hx) (hr k x u hx hu)⟩
  · rcases splitT i t ht with ht | ht
    · rcases h'.tok i t ht with hn | ⟨g, n, cap, cur, hv, rest⟩
      · exact .inl (by simp only; rw [hηo i t ht]; exact hn)
      · exact .inr ⟨g, n, cap, cur, by simp only; rw [hηo i t ht]; exact hv, rest⟩
    · rcases h.tok i t ht with hn | ⟨g, n, cap, cur, hv, hg, r1, r2, r3, r4⟩
      · exact .inl (by simp only; rw [hηc i t ht]; exact hn)
      · obtain ⟨hlt, hnM⟩ := blkT i t g ht (by rw [hv]; rfl)
        exact .inr ⟨g, n, cap, cur, by simp only; rw [hηc i t ht]; exact hv, by rw [h'.kept.block _ hlt hnM]; exact hg, r1, r2, r3, by rw [h'.old _ hlt]; exact r4⟩
  · simp only at he
    rcases splitB i b hi with hi | ⟨hn, hi⟩
    · rw [hρo i b hi] at he
      rcases splitB j b' hj with hj | ⟨hn', hj⟩
      · rw [hρo j b' hj] at he; exact h'.bb i j b b' hi hj he
      · rw [hρc j b' hj] at he
        obtain ⟨hlt, hnM⟩ := blkB j b' hn' hj
        rcases blkO i b hi with h1 | h1
        · omega
        · rw [he] at h1; exact (hnM h1).elim
    · rw [hρc i b hi] at he
      obtain ⟨hlt, hnM⟩ := blkB i b hn hi
      rcases splitB j b' hj with hj | ⟨hn', hj⟩
      · rw [hρo j b' hj] at he
        rcases blkO j b' hj with h1 | h1
        · omega
        · rw [← he] at h1; exact (hnM h1).elim
      · rw [hρc j b' hj] at he; exact h.bb i j b b' hi hj he
  · simp only at h1 h2
    rcases splitT i t hi with hi | hi
    · rw [hηo i t hi] at h1
      rcases splitT j t' hj with hj | hj
      · rw [hηo j t' hj] at h2; exact h'.tt i j t t' g hi hj h1 h2
      · rw [hηc j t' hj] at h2
        have := blkOT i t g hi h1
        have := (blkT j t' g hj h2).1
        omega
    · rw [hηc i t hi] at h1
      rcases splitT j t' hj with hj | hj
      · rw [hηo j t' hj] at h2
        have := blkOT j t' g hj h2
        have := (blkT i t g hi h1).1
        omega
      · rw [hηc j t' hj] at h2; exact h.tt i j t t' g hi hj h1 h2
  · simp only at hg
    rcases splitB i b hb with hb | ⟨hn, hb⟩
    · rw [hρo i b hb] at hg
      rcases splitT j t ht with ht | ht
      · rw [hηo j t ht] at hg; exact h'.bt i j b t hb ht hg
      · rw [hηc j t ht] at hg
        obtain ⟨hlt, hnM⟩ := blkT j t _ ht hg
        rcases blkO i b hb with h1 | h1
        · omega
        · exact hnM h1
    · rw [hρc i b hb] at hg
      rcases splitT j t ht with ht | ht
      · rw [hηo j t ht] at hg
        have := blkOT j t _ ht hg
        have := (blkB i b hn hb).1
        omega
      · rw [hηc j t ht] at hg; exact h.bt i j b t hb ht hg
  · simp only
    rcases splitB i b hb with hb | ⟨hn, hb⟩
    · rw [hρo i b hb]
      rcases blkO i b hb with h1 | h1
      · exact .inl (Nat.le_trans h.kept.size h1)
      · obtain ⟨id, b', hid, hb', e⟩ := hMi _ h1
        rw [← e]; exact h.own id b' hb'
    · rw [hρc i b hb]; exact h.own i b hb
  · simp only at hg
    rcases splitT j t ht with ht | ht
    · rw [hηo j t ht] at hg; exact Nat.le_trans h.kept.size (blkOT j t g ht hg)
    · rw [hηc j t ht] at hg; exact h.ownt j t g ht hg
  · simp only
    rw [h'.old b (Nat.lt_of_lt_of_le hb h.kept.size)]; exact h.old b hb
  · obtain ⟨e1, e2, e3⟩ := h.ins i hin
    obtain ⟨b, hb⟩ := Option.isSome_iff_exists.1 e3
    have := hbN i b hb
    refine ⟨by simp [this, e1], by simp [this, e2], ?_⟩
    rw [List.lookup_append]
    cases bxo.lookup i with
    | none => simpa using e3
    | some _ => rfl
  · refine h.kept.next h'.kept.os h'.kept.tape h'.kept.output h'.kept.size (fun k hk hm' => h'.kept.block k (Nat.lt_of_lt_of_le hk h.kept.size) (fun hM => ?_))
    obtain ⟨id, b', hid, hb', e⟩ := hMi _ hM
    rcases h.own id b' hb' with h1 | h1
    · omega
    · rw [e] at h1; exact hm' h1
end Go.Abs
