/- PickRows: rows picked out of a tensor, in plain terms. -/
import Derived.Test.YtbdcjhhphkckcaaKf
import Derived.Test.YtbdcjhhphkckcaaRMod
import Derived.Test.YtbdcjhhphkckcaaExaLaw
import Derived.Test.YtbdcjhhphkckcaaLbl
namespace Go.Proofs.Ytbdcjhhphkckcaa
set_option linter.unusedSimpArgs false
set_option linter.unusedVariables false
open Go.RowKit

/-- The first i of the rows picked. -/
def pickF (xs : List Nat) (C : Nat) (rows : List Int) (i : Nat) : List Nat := ((rows.take i).map fun r => rowT xs C r.toNat).flatten
theorem pickF_zero (xs : List Nat) (C : Nat) (rows : List Int) : pickF xs C rows 0 = [] := rfl
theorem pickF_succ (xs : List Nat) (C : Nat) {rows : List Int} {i : Nat} (h : i < rows.length) : pickF xs C rows (i + 1) = pickF xs C rows i ++ rowT xs C (rows.getD i 0).toNat := by
  unfold pickF
  rw [List.take_add_one, List.getElem?_eq_getElem h, show rows.getD i 0 = rows[i] by simp [h], List.map_append, List.flatten_append]
  simp only [Option.toList_some, List.map_cons, List.map_nil, List.flatten_cons, List.flatten_nil, List.append_nil]
/-- All rows are there. -/
def InR (rows : List Int) (R : Nat) : Prop := ∀ i, i < rows.length → 0 ≤ rows.getD i 0 ∧ rows.getD i 0 ≤ (R : Int) - 1
theorem InR.at {rows : List Int} {R : Nat} (h : InR rows R) {i : Nat} (hi : i < rows.length) : ∃ r : Nat, rows.getD i 0 = (r : Int) ∧ r < R := by
  obtain ⟨h1, h2⟩ := h i hi
  obtain ⟨r, hr⟩ := Int.eq_ofNat_of_zero_le h1
  exact ⟨r, hr, by omega⟩
theorem pickF_len {xs : List Nat} {C R : Nat} {rows : List Int} (hx : xs.length = R * C) (h : InR rows R) : ∀ i, i ≤ rows.length → (pickF xs C rows i).length = i * C
  | 0, _ => by simp [pickF_zero]
  | i + 1, hi => by
    obtain ⟨r, hr, hlt⟩ := h.at (i := i) (by omega)
    rw [pickF_succ xs C (by omega), List.length_append, pickF_len hx h i (by omega), hr, Int.toNat_natCast, rowT_len hx hlt, Nat.add_mul]
    omega
theorem lblB_in {rows : List Int} {R : Nat} (h : lblB R rows = true) : InR rows R := by
  intro i hi
  have := lblB_at h hi
  rw [show rows.getD i 0 = rows[i] by simp [hi]]
  exact this
end Go.Proofs.Ytbdcjhhphkckcaa
