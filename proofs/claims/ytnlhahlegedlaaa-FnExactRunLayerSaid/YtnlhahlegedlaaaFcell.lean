/- Cells of elements at their own addresses. -/
import Derived.Test.YtnlhahlegedlaaaElem
namespace Go.Proofs.Ytnlhahlegedlaaa
set_option linter.unusedSimpArgs false
set_option linter.unusedVariables false
open Go.RowKit

/-- A cell of an element, at its own address, in any later world. -/
theorem fcell {w w1 : World} {p : Option Addr} {css : List (List Value)} {s n i : Nat} {cs : List Value} {v : Value} (hp : Cs w p css.flatten) (h6 : ∀ c ∈ css, c.length = s) (h7 : css.length = n) (hi : i < n) (hc : css[i]? = some cs) (j : Nat) (hx : Ext w w1) (hv : cs[j]? = some v) :
    w1.cell? ((adr p (i * s)).add j) = some v := by
  obtain ⟨_, rfl⟩ := List.getElem?_eq_some_iff.1 hc
  have hj : j < s := by have := (List.getElem?_eq_some_iff.1 hv).1; rwa [h6 _ (List.getElem_mem _)] at this
  have h1 := (hp.ext hx).cell (i * s + j) v (by rw [flat_get h6 (by omega) hj]; exact hv)
  unfold adr at h1 ⊢
  rw [Go.Proofs.Ytnlhahlegedlaaa.add_add]; exact h1

end Go.Proofs.Ytnlhahlegedlaaa
