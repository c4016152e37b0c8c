/- The confusion of labels, the reference's part. -/
import Derived.Test.YtlimabbeaimdgaaConf
import Derived.Test.YtlimabbeaimdgaaKf
namespace Go.Proofs.Ytlimabbeaimdgaa
set_option linter.unusedSimpArgs false
set_option linter.unusedVariables false
open Go.RowKit

def labB (L : List shLayer.T) (r k : Int) (n : Nat) (l : List Int) : Bool := modB L && (tenB r k n && (decide (k = inL L 0) && (decide ((l.length : Int) = r) && lblGo (outL L) l 0)))
theorem labB_iff {d : shModel.T} {x : shTensor.T} {l : List Int} : labB d.1 x.1 x.2.1 (x.2.2.1 : List Nat).length l = true ↔ okL d x l := by
  unfold labB okL lblGo
  rw [List.drop_zero]
  simp only [Bool.and_eq_true, decide_eq_true_eq]
  constructor
  · rintro ⟨h1, h2, h3, h4, h5⟩; exact ⟨⟨h1, h2, h3⟩, h4, h5⟩
  · rintro ⟨⟨h1, h2, h3⟩, h4, h5⟩; exact ⟨h1, h2, h3, h4, h5⟩
/-- The greatest columns of the first rows. -/
def grtL (xs : List Nat) (C r : Nat) : List Int := (List.range r).map fun i => ((gi (rowT xs C i) C : Nat) : Int)
theorem grtL_len (xs : List Nat) (C r : Nat) : (grtL xs C r).length = r := by simp [grtL]
theorem grtL_succ (xs : List Nat) (C r : Nat) : grtL xs C (r + 1) = grtL xs C r ++ [((gi (rowT xs C r) C : Nat) : Int)] := by simp [grtL, List.range_succ]
theorem grtL_at {xs : List Nat} {C r i : Nat} (h : i < r) : (grtL xs C r).getD i 0 = ((gi (rowT xs C i) C : Nat) : Int) := by
  rw [List.getD_eq_getElem?_getD]; simp [grtL, h]
theorem rowT_get {xs : List Nat} {C R r k : Nat} (hx : xs.length = R * C) (hr : r < R) (hk : k < C) : (rowT xs C r).getD k 0 = xs.getD (r * C + k) 0 := by
  unfold rowT
  have h1 : (r + 1) * C ≤ R * C := row_le hr
  rw [List.getD_eq_getElem?_getD, List.getElem?_drop, List.getElem?_take, if_pos (by rw [Nat.add_mul]; omega), ← List.getD_eq_getElem?_getD]
/-- A list of integers of one's own, as a result. -/
def RetI (w : World) (o : List Int) (e : Ending) (w' : World) : Prop := ∃ q c, e = .returned (.slice q o.length c) ∧ w'.ownsRow w.heap.size 2 1 (.slice q o.length c) o.length (o.map (.int .i64)) ∧ Ext w w'
end Go.Proofs.Ytlimabbeaimdgaa
