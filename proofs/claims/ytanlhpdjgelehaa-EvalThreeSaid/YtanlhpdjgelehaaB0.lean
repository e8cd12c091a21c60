/- A logic of abstract states, part 18: bytes of a string, the first place of a byte, the last bit, the lesser of two. Conditions: each rule's own premises; over any program. -/
import Derived.Test.YtanlhpdjgelehaaB1
import Derived.Laws.Externs
import Derived.Lib.Bytealg
import Derived.Laws.Small
namespace Go.Abs
open Go.RowKit (Below)
set_option linter.unusedVariables false

section
variable {P : Program} {c : Ctx} {st : St} {ops : Array Oper} {Q : Exit → Act → World → Prop} {rest : List Oper} {o : Oper}

/-- a new block, published at once -/
theorem Inv.newPub {E : Env} {a : Act} {w : World} (hi : Inv c E st a w) {id : Nat} (hf : st.fresh id = true) (ob : Obj) (p : Nat) :
    ∃ E', Inv c E' st a (w.alloc ob) ∧ Keeps E.φ w (w.alloc ob) ∧ (∀ b, E.φ b ≤ E'.φ b) ∧ E'.φ w.heap.size = p := by
  obtain ⟨hh, mono⟩ := hi.heap.alloc hf ob p undef
  refine ⟨_, ⟨hi.defers, hi.size, fun s v hv => mono v _ (St.fresh_fr hf hv) (hi.slot s v hv), hh⟩, Keeps.alloc hi.heap.new _, fun b => ?_, by simp [Env.upd]⟩
  simp only [Env.upd]; split
  · rename_i e; rw [hi.heap.new b (by omega)]; exact Nat.zero_le _
  · exact Nat.le_refl _

theorem Makes.strBytes {x : Operand} {s t e : TypeId} {id : Nat} {bs : List UInt8} (ho : o.op = .convert s t x) (hx : st.ev x = aS bs) (hs : P.underlying s = some .string) (ht : P.underlying t = some (.slice e)) (he : P.underlying e = some (.int .u8))
    (hf : st.fresh id = true) (hl : bs.length ≤ 9223372036854775807) : Makes P c st o (.iv (.sl (bs.map cB))) st.bx st.tk := fun E a w hi => by
  have hq := hi.im hx
  have hsz : (⟨bs.toArray⟩ : ByteArray).size = bs.length := by show bs.toArray.size = _; simp
  have hrun := run_bytes_of_string w s t e ⟨bs.toArray⟩ hs ht he
  rw [hsz] at hrun
  obtain ⟨E', hi', hk, hle, hp⟩ := hi.drew.newPub hf (.cells (bytesRow ⟨bs.toArray⟩ (grownCap w bs.length 0 e)) e ((bytesRow ⟨bs.toArray⟩ (grownCap w bs.length 0 e)).size, (bytesRow ⟨bs.toArray⟩ (grownCap w bs.length 0 e)).size + 1)) bs.length
  refine ⟨.slice (some ⟨w.heap.size, 0, none⟩) bs.length (grownCap w bs.length 0 e), E', _, by simp [execOp, ho, hq, hrun], hi', ?_⟩
  have hlm : (bs.map cB).length = bs.length := by simp
  have hcap := grownCap_ge w bs.length 0 e
  have hcm := grownCap_le_maxLen w bs.length 0 e (by simpa [maxLen] using hl)
  refine .iv ?_
  have hget : ∀ (i : Nat) (e' : List IV), (bs.map cB)[i]? = some e' → ∃ b, bs[i]? = some b ∧ e' = cB b := fun i e' h => by
    simp only [List.getElem?_map, Option.map_eq_some_iff] at h
    obtain ⟨b, hb, rfl⟩ := h
    exact ⟨b, hb, rfl⟩
  have main : RepI E'.φ (w.drew.alloc (.cells (bytesRow ⟨bs.toArray⟩ (grownCap w bs.length 0 e)) e ((bytesRow ⟨bs.toArray⟩ (grownCap w bs.length 0 e)).size, (bytesRow ⟨bs.toArray⟩ (grownCap w bs.length 0 e)).size + 1))) (.sl (bs.map cB)) (.slice (some ⟨w.heap.size, 0, none⟩) (bs.map cB).length (grownCap w bs.length 0 e)) := by
    refine .sl (k := 1) (fun i _ => .int .u8 ((bs.getD i 0).toNat : Int)) (by rw [hlm]; exact hcap) hcm ?_ ?_ ?_ ?_
    · intro i e' h; obtain ⟨b, _, rfl⟩ := hget i e' h; rfl
    · intro i e' j x' h h2
      obtain ⟨b, hb, rfl⟩ := hget i e' h
      have hj : j < 1 := (List.getElem?_eq_some_iff.1 h2).1
      have hi1 : i < bs.length := (List.getElem?_eq_some_iff.1 hb).1
      have : E'.φ w.heap.size = bs.length := hp
      rw [this]; omega
    · intro i e' j x' h h2
      obtain ⟨b, hb, rfl⟩ := hget i e' h
      have hj : j < 1 := (List.getElem?_eq_some_iff.1 h2).1
      have hi1 : i < bs.length := (List.getElem?_eq_some_iff.1 hb).1
      obtain rfl : j = 0 := by omega
      have hat := bytesRow_at ⟨bs.toArray⟩ (grownCap w bs.length 0 e) i (by simpa using hi1)
      have hnew : (w.drew.alloc (.cells (bytesRow ⟨bs.toArray⟩ (grownCap w bs.length 0 e)) e ((bytesRow ⟨bs.toArray⟩ (grownCap w bs.length 0 e)).size, (bytesRow ⟨bs.toArray⟩ (grownCap w bs.length 0 e)).size + 1))).heap[w.heap.size]? = some (.cells (bytesRow ⟨bs.toArray⟩ (grownCap w bs.length 0 e)) e ((bytesRow ⟨bs.toArray⟩ (grownCap w bs.length 0 e)).size, (bytesRow ⟨bs.toArray⟩ (grownCap w bs.length 0 e)).size + 1)) := heapNew w.drew _
      unfold World.cell?
      simp only [hnew]
      simp only [Option.isSome_none, Bool.false_eq_true, if_false, Nat.zero_add, Nat.mul_one, Nat.add_zero]
      rw [hat]
      have : bs.getD i 0 = bs[i] := by simp [List.getD, List.getElem?_eq_getElem hi1]
      rw [this]; simp
    · intro i e' j x' h h2
      obtain ⟨b, hb, rfl⟩ := hget i e' h
      have hj : j < 1 := (List.getElem?_eq_some_iff.1 h2).1
      obtain rfl : j = 0 := by omega
      have : bs.getD i 0 = b := by simp [List.getD, hb]
      simp only [this]
      simp at h2; subst h2
      exact .im rfl
  rw [hlm] at main
  exact main

/-- a call of a function for which the model stands in -/
def extOk (P : Program) (f : FuncId) (e : Array Value → Sem Value) : Prop :=
  ∃ fn, P.funcs[f]? = some fn ∧ (fn.name == "runtime.NumGoroutine") = false ∧ fn.body.isNone = true ∧ Extern.findNext fn = none ∧ Extern.find fn = some e
theorem Yields.idxB {f : FuncId} {x y : Operand} {ats : Array TypeId} {m : List UInt8} {n : Int} (ho : o.op = .call { callee := .value (.func f), args := #[x, y], argTypes := ats })
    (hok : extOk P f Extern.BytealgIndexByte.indexByte) (hx : st.ev x = aS m) (hy : st.ev y = .iv (.im (.int .u8 n))) : Yields P c st o (aI (Lib.indexByte m n.toNat.toUInt8)) :=
  .im rfl fun E a w hi => by
    obtain ⟨fn, hf, h1, h2, h3, h4⟩ := hok
    have e1 := hi.im hx
    have e2 := hi.im hy
    have hrun := run_callFunc_extern hf h1 h2 h3 h4 #[.string ⟨m.toArray⟩, .int .u8 n] w
    rw [Lib.run_indexByteString] at hrun
    have : (execOp a.eval o).run P w = (callFunc f #[a.eval x, a.eval y]).run P w := by
      simp [execOp, ho, resolve, Deferred.ofValue, Act.eval, invoke]
    rw [this, e1, e2, hrun]
    simp [Result.andThen]

theorem and_one (n : Int) : bits .and .i64 n 1 = n % 2 := by
  have h1 : (BitVec.ofInt 64 1).toNat = 2 ^ 1 - 1 := by decide
  have key : (BitVec.ofInt 64 n &&& BitVec.ofInt 64 1).toNat = (n % ((2 ^ 64 : Nat) : Int)).toNat % 2 ^ 1 := by
    rw [BitVec.toNat_and, BitVec.toNat_ofInt, h1, Nat.and_two_pow_sub_one_eq_mod]
  show IntKind.i64.wrap ((BitVec.ofInt 64 n &&& BitVec.ofInt 64 1).toNat : Nat) = n % 2
  rw [key, IntKind.wrap_i64]
  omega
theorem Yields.and1 {x y : Operand} {t t' : TypeId} {m : Int} (ho : o.op = .binOp .and t x y t') (hx : st.ev x = aI m) (hy : st.ev y = aI 1) : Yields P c st o (aI (m % 2)) :=
  .arith ho hx hy (fun w => by rw [← and_one m]; rfl) (fun w => rfl)
theorem Yields.min2 {x y : Operand} {t t' : TypeId} {m n : Int} (ho : o.op = .call { callee := .builtin .min, args := #[x, y], argTypes := #[t, t'] }) (hx : st.ev x = aI m) (hy : st.ev y = aI n) : Yields P c st o (aI (if n < m then n else m)) :=
  .im rfl fun E a w hi => by
    have e1 := hi.im hx
    have e2 := hi.im hy
    simp [execOp, ho, resolve, invoke, builtin, e1, e2, run_min_int2, Result.andThen]
end
end Go.Abs
