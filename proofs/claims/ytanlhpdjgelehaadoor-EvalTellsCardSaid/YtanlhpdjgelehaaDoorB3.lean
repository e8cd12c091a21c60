/- A logic of abstract states, part 15: from a contract to the call of a law: it returns true and writes nothing that was there. Conditions: the premises. -/
import Derived.Test.YtanlhpdjgelehaaDoorB2
namespace Go.Abs
open Go.RowKit (Below)
set_option linter.unusedVariables false
def lawEnv (φ : Nat → Nat) : Env := ⟨φ, fun _ => 0, fun _ => .slice none 0 0⟩
theorem law_calls {P : Program} {f : FuncId} {avs : List AV} (hc : CallA P f avs [] [] [] (aB true)) {W : World} {us : List Value} (φ : Nat → Nat) (hφ : ∀ b, W.heap.size ≤ b → φ b = 0) (hr : RelL (lawEnv φ) W avs us) :
    Calls P f us.toArray W fun e w' => e = .returned (.bool true) ∧ Below W.heap.size W w' := by
  refine (hc (lawEnv φ) W us hr ?_).mono ?_
  · exact ⟨fun id b h => by simp at h, fun id t h => by simp at h, fun i j b b' h => by simp at h, fun i j t t' g h => by simp at h, fun i j b t h => by simp at h, fun i b h => by simp at h, fun i t g h => by simp at h,
      hφ, fun b _ => rfl, fun id h => by simp [keys] at h, KeptBut.refl _ _⟩
  · rintro e w' ⟨u, E', he, hu, hh⟩
    have hv := hu.iv_im
    subst hv
    refine ⟨he, ?_⟩
    have hk := hh.kept
    exact ⟨hk.os, hk.tape, hk.output, hk.size, fun k hlt => hk.block k hlt (fun ⟨id, hid, _⟩ => by simp [keys] at hid)⟩
theorem RelL.cons {E : Env} {w : World} {v : AV} {u : Value} {vs : List AV} {us : List Value} (h : RepA E w v u) (t : RelL E w vs us) : RelL E w (v :: vs) (u :: us) :=
  ⟨by simp [t.1], fun i c x hc hx => by
    cases i with
    | zero => simp at hc hx; subst hc; subst hx; exact h
    | succ i => exact t.2 i c x (by simpa using hc) (by simpa using hx)⟩
end Go.Abs
