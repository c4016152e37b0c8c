/- Numbers that lie in a range. -/
import Derived.Test.YtlimabbeaimdgaaCont2
namespace Go.Proofs.Ytlimabbeaimdgaa
set_option linter.unusedSimpArgs false
set_option linter.unusedVariables false
open Go.RowKit

/-- Labels, each of which is one of the first O numbers. -/
def lblB (O : Int) (l : List Int) : Bool := l.all fun n => inB n 0 (O - 1)
theorem lblB_at {O : Int} {l : List Int} (h : lblB O l = true) {i : Nat} (hi : i < l.length) : 0 ≤ l[i] ∧ l[i] ≤ O - 1 := by
  unfold lblB at h
  rw [List.all_eq_true] at h
  exact inB_true.1 (h l[i] (by simp))
theorem lblB_any {O : Int} {l : List Int} : anyTo (fun i => !inB (l.getD i 0) 0 (O - 1)) l.length = !lblB O l := by
  have h : lblB O l = true ↔ ∀ i, (h : i < l.length) → inB l[i] 0 (O - 1) = true := by
    unfold lblB
    rw [List.all_eq_true]
    constructor
    · exact fun h i hi => h l[i] (by simp)
    · intro h x hx
      obtain ⟨i, hi, rfl⟩ := List.mem_iff_getElem.1 hx
      exact h i hi
  cases hb : lblB O l
  · rw [Bool.not_false, anyTo_true]
    apply Classical.byContradiction
    intro hn
    have : lblB O l = true := h.2 fun i hi => by
      cases hi2 : inB l[i] 0 (O - 1)
      · exact (hn ⟨i, hi, by simp [hi, hi2]⟩).elim
      · rfl
    rw [hb] at this; cases this
  · rw [Bool.not_true]
    refine anyTo_false fun i hi => ?_
    have := h.1 hb i hi
    simp [hi, this]
/-- From place i on. -/
def lblGo (O : Int) (l : List Int) (i : Nat) : Bool := lblB O (l.drop i)
theorem lblGo_at {O : Int} {l : List Int} {i : Nat} (hi : i < l.length) : lblGo O l i = (inB l[i] 0 (O - 1) && lblGo O l (i + 1)) := by
  unfold lblGo lblB
  rw [List.drop_eq_getElem_cons hi, List.all_cons]
theorem lblGo_end {O : Int} {l : List Int} {i : Nat} (hi : l.length ≤ i) : lblGo O l i = true := by
  unfold lblGo lblB
  rw [List.drop_of_length_le hi]; rfl
end Go.Proofs.Ytlimabbeaimdgaa
