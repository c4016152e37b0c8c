/- The first least number of a list: the plain part. -/
import Derived.Test.YtlimabbeaimdgaaKey
import Derived.Test.YtlimabbeaimdgaaStop3
namespace Go.Proofs.Ytlimabbeaimdgaa
set_option linter.unusedSimpArgs false
set_option linter.unusedVariables false
open Go.RowKit

theorem lt32_eq (x y : Nat) : lt32 x y = flt .f32 x y := rfl
def bestTo (xs : List Nat) : Nat → Int
  | 0 => -1
  | i + 1 => if isN (xs.getD i 0) && (decide (bestTo xs i < 0) || flt .f32 (xs.getD i 0) (xs.getD (bestTo xs i).toNat 0)) then (i : Int) else bestTo xs i
theorem bestTo_inv (xs : List Nat) : ∀ i, (bestTo xs i = -1 ∧ ∀ j, j < i → isN (xs.getD j 0) = false) ∨
    ∃ b : Nat, bestTo xs i = b ∧ b < i ∧ isN (xs.getD b 0) = true ∧ (∀ j, j < i → flt .f32 (xs.getD j 0) (xs.getD b 0) = false) ∧ ∀ j, j < b → feq .f32 (xs.getD j 0) (xs.getD b 0) = false
  | 0 => .inl ⟨rfl, fun j h => by omega⟩
  | i + 1 => by
    have ih := bestTo_inv xs i
    unfold bestTo
    rcases ih with ⟨h1, h2⟩ | ⟨b, h1, h2, h3, h4, h5⟩
    · rw [h1]
      cases hN : isN (xs.getD i 0) with
      | false =>
        refine .inl ⟨by simp, fun j hj => ?_⟩
        by_cases hji : j = i
        · subst hji; exact hN
        · exact h2 j (by omega)
      | true =>
        refine .inr ⟨i, by simp, by omega, hN, fun j hj => ?_, fun j hj => ?_⟩
        · rw [← Bool.not_eq_true, flt_iff]
          rintro ⟨g1, g2, g3⟩
          by_cases hji : j = i
          · subst hji; omega
          · rw [h2 j (by omega)] at g1; cases g1
        · rw [← Bool.not_eq_true, feq_iff]
          rintro ⟨g1, g2, g3⟩
          rw [h2 j hj] at g1; cases g1
    · rw [h1]
      have hb0 : decide ((b : Int) < 0) = false := by simp
      rw [hb0, Bool.false_or, Int.toNat_natCast]
      cases hN : isN (xs.getD i 0) && flt .f32 (xs.getD i 0) (xs.getD b 0) with
      | false =>
        refine .inr ⟨b, by simp, by omega, h3, fun j hj => ?_, h5⟩
        by_cases hji : j = i
        · subst hji
          rw [← Bool.not_eq_true]
          intro g
          have g' := flt_iff.1 g
          rw [g'.1, g] at hN; cases hN
        · exact h4 j (by omega)
      | true =>
        rw [Bool.and_eq_true] at hN
        obtain ⟨n1, n2⟩ := hN
        obtain ⟨k1, k2, k3⟩ := flt_iff.1 n2
        refine .inr ⟨i, by simp, by omega, n1, fun j hj => ?_, fun j hj => ?_⟩
        · rw [← Bool.not_eq_true, flt_iff]
          rintro ⟨g1, g2, g3⟩
          by_cases hji : j = i
          · subst hji; omega
          · have := h4 j (by omega)
            rw [← Bool.not_eq_true, flt_iff] at this
            exact this ⟨g1, k2, by omega⟩
        · rw [← Bool.not_eq_true, feq_iff]
          rintro ⟨g1, g2, g3⟩
          have := h4 j (by omega)
          rw [← Bool.not_eq_true, flt_iff] at this
          exact this ⟨g1, k2, by omega⟩
end Go.Proofs.Ytlimabbeaimdgaa
