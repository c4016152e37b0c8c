/- The harness on lists of integers: equal, marked, held. -/
import Derived.Test.YthphfmngofbabaaInt
namespace Go.Proofs.Ythphfmngofbabaa
set_option linter.unusedSimpArgs false
set_option linter.unusedVariables false
open Go.RowKit

theorem grownBy_trans {a b c : World} {row : Option Nat} (h : a.grownBy b row) (k : b.grownBy c row) : a.grownBy c row :=
  ⟨k.os.trans h.os, k.tape.trans h.tape, k.output.trans h.output, Nat.le_trans h.size k.size, fun i hi hr => (k.block i (Nat.lt_of_lt_of_le hi h.size) hr).trans (h.block i hi hr)⟩
theorem grownBy_refl (a : World) (row : Option Nat) : a.grownBy a row := ⟨rfl, rfl, rfl, Nat.le_refl _, fun _ _ _ => rfl⟩

/-- k, k + 1, .. up to i places. -/
def marks (k : Int) (n : Nat) : List Int := (List.range n).map fun (i : Nat) => k + i
theorem length_marks (k : Int) (n : Nat) : (marks k n).length = n := by simp [marks]
theorem marks_getD (k : Int) (n i : Nat) (h : i < n) : (marks k n).getD i 0 = k + i := by simp [marks, h]
/-- The first i places marked. -/
def markTo (k : Int) (xs : List Int) (i : Nat) : List Int := marks k i ++ xs.drop i
theorem markTo_set (k : Int) (xs : List Int) (i : Nat) (h : i < xs.length) : (markTo k xs i).set i (k + i) = markTo k xs (i + 1) := by
  unfold markTo
  rw [List.set_append_right _ _ (by rw [length_marks]; omega), length_marks, Nat.sub_self]
  have : xs.drop i = xs[i] :: xs.drop (i + 1) := by rw [List.drop_eq_getElem_cons h]
  rw [this, List.set_cons_zero]
  have : marks k (i + 1) = marks k i ++ [k + i] := by simp [marks, List.range_succ]
  rw [this, List.append_assoc]; rfl
theorem length_markTo (k : Int) (xs : List Int) (i : Nat) (h : i ≤ xs.length) : (markTo k xs i).length = xs.length := by simp [markTo, length_marks]; omega
theorem markTo_all (k : Int) (xs : List Int) : markTo k xs xs.length = marks k xs.length := by simp [markTo]

theorem getD_eq {xs ys : List Int} (h : xs.length = ys.length) (ha : ∀ j, j < xs.length → xs.getD j 0 = ys.getD j 0) : xs = ys := by
  apply List.ext_getElem h
  intro i h1 h2
  have := ha i h1
  simpa [h1, h2] using this

/-- What 'held' answers. -/
def heldOf (k : Int) : List Int → Int
  | [] => k
  | x :: xs => if x = k then heldOf (k + 1) xs else -1
theorem heldOf_marks (n : Nat) : ∀ k, heldOf k (marks k n) = k + n := by
  induction n with
  | zero => intro k; simp [marks, heldOf]
  | succ n ih =>
    intro k
    have : marks k (n + 1) = k :: marks (k + 1) n := by
      simp only [marks, List.range_succ_eq_map, List.map_cons, List.map_map]
      congr 1
      · simp
      · apply List.map_congr_left; intro i _; simp; omega
    rw [this, heldOf, if_pos rfl, ih]; simp; omega
end Go.Proofs.Ythphfmngofbabaa
