/- Models and states that are the same: the program's functions. -/
import Derived.Test.YtbdcjhhphkckcaaKc
namespace Go.Proofs.Ytbdcjhhphkckcaa
set_option linter.unusedSimpArgs false
set_option linter.unusedVariables false
open Go.RowKit

theorem flat1 {css : List (List Value)} (h : ∀ c ∈ css, c.length = 1) {i : Nat} {u : Value} (hu : css.flatten[i]? = some u) : css[i]? = some [u] := by
  have hl := flat_len' h
  have hi : i < css.length := by have := (List.getElem?_eq_some_iff.1 hu).1; omega
  have h2 := flat_get' (j := 0) h hi (by decide)
  rw [Nat.mul_one, Nat.add_zero, hu] at h2
  have h3 := h css[i] (by simp)
  obtain ⟨x, hx⟩ := List.length_eq_one_iff.1 h3
  rw [hx] at h2
  rw [List.getElem?_eq_getElem hi, hx]
  simpa using h2.symm
theorem tra_cells {w : World} {cs : List Value} {d : shTrainState.T} (h : Rep w shTrainState cs d) (hf : Fit shTrainState d) : ∃ v1 v2 b, cs = [v1, v2, .int .i64 d.2.2.1, .int .i64 d.2.2.2.1, .float .f32 b] ∧ Rep w (.sl shLayer) [v1] d.1.1 ∧ Rep w (.sl (.sl .flt)) [v2] d.2.1 ∧ Fit (.sl shLayer) d.1.1 ∧ Fit (.sl (.sl .flt)) d.2.1 ∧ cn .f32 b = d.2.2.2.2.1 ∧ d.2.2.2.2.1 < 4294967296 := by
  obtain ⟨⟨a1, au⟩, a2, a3, a4, a5, bu⟩ := d
  obtain ⟨_, _, rfl, ⟨_, _, rfl, h1, rfl⟩, _, _, rfl, h2, _, _, rfl, rfl, _, _, rfl, rfl, _, _, rfl, ⟨b, rfl, hb⟩, rfl⟩ := h
  obtain ⟨⟨f1, _⟩, f2, _, _, f5, _⟩ := hf
  obtain ⟨v1, hv1⟩ := List.length_eq_one_iff.1 h1.size
  obtain ⟨v2, hv2⟩ := List.length_eq_one_iff.1 h2.size
  subst hv1; subst hv2
  exact ⟨v1, v2, b, rfl, h1, h2, f1, f2, hb, f5⟩
end Go.Proofs.Ytbdcjhhphkckcaa
