/- What layers make stays a number of 32 bits. -/
import Derived.Test.YtlimabbeaimdgaaDr2
import Derived.Test.YtlimabbeaimdgaaKe
namespace Go.Proofs.Ytlimabbeaimdgaa
set_option linter.unusedSimpArgs false
set_option linter.unusedVariables false
open Go.RowKit

theorem fconv_lt (x : Nat) : fconv .f64 x .f32 < 4294967296 := by
  unfold fconv
  cases h : floatToFloatBits .f64 x .f32 with
  | none => decide
  | some r =>
    show r < 4294967296
    unfold floatToFloatBits at h
    rw [if_neg (by decide)] at h
    cases hd : FloatKind.f64.decode x with
    | nan s f => rw [hd] at h; simp at h
    | infinity s =>
      rw [hd] at h
      have h2 : r = FloatKind.f32.encode (.infinity s) := by simpa using h.symm
      rw [h2]; exact write_lt (d := .infinity s) rfl
    | number s m e =>
      rw [hd] at h
      have h2 : r = (Ieee.single).write (.number s m e) := by
        simp only at h
        split at h
        · cases h
        · injection h with h; exact h.symm
      rw [h2]; exact write_lt rfl
theorem lt_tab {n : Nat} {f : Nat → Nat} (h : ∀ i, f i < 4294967296) : ∀ x ∈ tab n f, x < 4294967296 := by
  intro x hx
  unfold tab at hx
  obtain ⟨i, _, rfl⟩ := List.mem_map.1 hx
  exact h i
theorem lt_getD {xs : List Nat} (h : ∀ x ∈ xs, x < 4294967296) (i : Nat) : xs.getD i 0 < 4294967296 := by
  by_cases hi : i < xs.length
  · rw [show xs.getD i 0 = xs[i] by simp [hi]]; exact h _ (List.getElem_mem hi)
  · rw [List.getD_eq_getElem?_getD, List.getElem?_eq_none (by omega)]; decide
theorem lt_lay (d : shLayer.T) {xs : List Nat} (h : ∀ x ∈ xs, x < 4294967296) : ∀ x ∈ layF d xs, x < 4294967296 := by
  unfold layF runF
  split
  · exact lt_tab fun i => fop_lt _ _ _
  · split
    · exact lt_tab fun i => fop_lt _ _ _
    · refine lt_tab fun i => ?_
      unfold rO
      split
      · exact fop_lt _ _ _
      · split
        · unfold reluF
          split
          · exact lt_getD h i
          · decide
        · split
          · exact fop_lt _ _ _
          · unfold tanF
            split
            · decide
            · split
              · decide
              · exact fconv_lt _
theorem lt_cur (l : List shLayer.T) {x : List Nat} (h : ∀ y ∈ x, y < 4294967296) : ∀ i, ∀ y ∈ curF l x i, y < 4294967296 := by
  intro i
  unfold curF
  generalize l.take i = t
  induction t generalizing x with
  | nil => exact h
  | cons d t ih => exact ih (lt_lay d h)
end Go.Proofs.Ytlimabbeaimdgaa
