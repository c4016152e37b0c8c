/- StopAt: the reference's. -/
import Derived.Test.YtlimabbeaimdgaaStop2
namespace Go.Proofs.Ytlimabbeaimdgaa
set_option linter.unusedSimpArgs false
set_option linter.unusedVariables false
open Go.RowKit

theorem allLess_zero (xs : List Nat) (x : Nat) : allLess xs 0 x = true := rfl
theorem allLess_succ (xs : List Nat) (f x : Nat) : allLess xs (f + 1) x = (allLess xs f x && lt32 x (xs.getD f 0)) := by
  unfold allLess; rw [anyTo]; simp

end Go.Proofs.Ytlimabbeaimdgaa
