/- A logic of abstract states, part 19: a law's call where a package's table of integers is laid. Conditions: the premises. -/
import Derived.Test.YtanlhpdjgelehaaDoorO2
import Derived.Lib.LaidTab
namespace Go.Abs
open Go.RowKit (Below)
set_option linter.unusedVariables false

theorem law_callsG {P : Program} {g : Nat} {vs : List Value} {f : FuncId} {avs : List AV} (hc : CallG g vs P f avs [] [] [] (aB true)) {W : World} {us : List Value} (φ : Nat → Nat) (hφ : ∀ b, W.heap.size ≤ b → φ b = 0) (hG : Glob g vs (lawEnv φ) W) (hr : RelL (lawEnv φ) W avs us) :
    Calls P f us.toArray W fun e w' => e = .returned (.bool true) ∧ Below W.heap.size W w' := by
  refine (hc (lawEnv φ) W us hr ?_ hG).mono ?_
  · exact ⟨fun id b h => by simp at h, fun id t h => by simp at h, fun i j b b' h => by simp at h, fun i j t t' g h => by simp at h, fun i j b t h => by simp at h, fun i b h => by simp at h, fun i t g h => by simp at h,
      hφ, fun b _ => rfl, fun id h => by simp [keys] at h, KeptBut.refl _ _⟩
  · rintro e w' ⟨u, E', he, hu, hh⟩
    have hv := hu.iv_im
    subst hv
    refine ⟨he, ?_⟩
    have hk := hh.kept
    exact ⟨hk.os, hk.tape, hk.output, hk.size, fun k hlt => hk.block k hlt (fun ⟨id, hid, _⟩ => by simp [keys] at hid)⟩

theorem glob_of_tab {P : Program} {W : World} {name : String} {g : Nat} {zs : List Int} (hg : P.globalNamed name = some g) (h : Lib.TabIs P W name .i64 zs) (hp : 0 < zs.length) :
    Glob g (zs.map fun z => Value.int .i64 z) (lawEnv (sizes W)) W := by
  have hc : ∀ (i : Nat) (v : Value), (zs.map fun z => Value.int .i64 z)[i]? = some v → W.cell? ⟨g, i, none⟩ = some v ∧ v.oneCell' = true := by
    intro i v hv
    simp only [List.getElem?_map, Option.map_eq_some_iff] at hv
    obtain ⟨z, hz, rfl⟩ := hv
    have hi := (List.getElem?_eq_some_iff.1 hz).1
    have := h.cell hg i hi
    rw [this]
    have e : zs[i]? = some zs[i] := List.getElem?_eq_getElem hi
    rw [e] at hz
    cases hz
    exact ⟨by simp [List.getD, e], rfl⟩
  obtain ⟨h0, _⟩ := hc 0 (.int .i64 zs[0]) (by simp [hp])
  refine ⟨?_, by simpa using hp, fun i v hv => ?_⟩
  · have := sizes_cell h0
    refine Nat.lt_of_not_le (fun hle => ?_)
    rw [sizes_new hle] at this
    omega
  · obtain ⟨k1, k2⟩ := hc i v hv
    exact ⟨sizes_cell k1, k1, k2⟩
end Go.Abs
