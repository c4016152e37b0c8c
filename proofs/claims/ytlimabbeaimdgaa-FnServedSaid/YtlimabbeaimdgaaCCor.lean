/- CountCorrect. -/
import Derived.Test.YtlimabbeaimdgaaRMod
import Derived.Test.YtlimabbeaimdgaaGrt
import Derived.Test.YtlimabbeaimdgaaKc
namespace Go.Proofs.Ytlimabbeaimdgaa.lCountCorrect
set_option linter.unusedSimpArgs false
set_option linter.unusedVariables false
open Go.RowKit

theorem take_rowsM {l : List shLayer.T} {xs : List Nat} {c R m : Nat} (hM : ModOk l) (hc : (c : Int) = inL l 0) (hm : (m : Int) = outL l) (hx : xs.length = R * c) (r : Nat) : ∀ k, r + k ≤ R → (rowsM l xs c (r + k)).take (r * m) = rowsM l xs c r
  | 0, h => by rw [Nat.add_zero, ← rowsM_len hM hc hm hx r (by omega), List.take_length]
  | k + 1, h => by
    rw [show r + (k + 1) = (r + k) + 1 by omega, rowsM_succ, List.take_append_of_le_length, take_rowsM hM hc hm hx r k (by omega)]
    rw [rowsM_len hM hc hm hx (r + k) (by omega)]
    exact Nat.mul_le_mul_right m (by omega)
theorem rowT_rowsM {l : List shLayer.T} {xs : List Nat} {c R m : Nat} (hM : ModOk l) (hc : (c : Int) = inL l 0) (hm : (m : Int) = outL l) (hx : xs.length = R * c) {i : Nat} (hi : i < R) : rowT (rowsM l xs c R) m i = curF l (rowT xs c i) l.length := by
  have h1 := take_rowsM hM hc hm hx (i + 1) (R - (i + 1)) (by omega)
  rw [show i + 1 + (R - (i + 1)) = R by omega] at h1
  unfold rowT
  rw [h1, rowsM_succ, ← rowsM_len hM hc hm hx i (by omega), List.drop_left]
  rfl
def agr (f g : Nat → Nat) : Nat → Nat
  | 0 => 0
  | r + 1 => agr f g r + if f r = g r then 1 else 0
theorem agr_le (f g : Nat → Nat) : ∀ r, agr f g r ≤ r
  | 0 => Nat.le_refl _
  | r + 1 => by have := agr_le f g r; unfold agr; split <;> omega
def hitF (l : List shLayer.T) (xs : List Nat) (C m r : Nat) : Nat := gi (curF l (rowT xs C r) l.length) m
def hitG (ys : List Nat) (m r : Nat) : Nat := gi (rowT ys m r) m
def okD (d : shModel.T) (x : shExamples.T) : Prop := exaB x.1.1 x.1.2.1 (x.1.2.2.1 : List Nat).length x.2.1.1 x.2.1.2.1 (x.2.1.2.2.1 : List Nat).length = true ∧ modB d.1 = true ∧ x.1.2.1 = inL d.1 0 ∧ x.2.1.2.1 = outL d.1
instance (d : shModel.T) (x : shExamples.T) : Decidable (okD d x) := by unfold okD; infer_instance
def res (d : shModel.T) (x : shExamples.T) : Int × Bool :=
  if okD d x then ((agr (hitF d.1 x.1.2.2.1 x.1.2.1.toNat (outL d.1).toNat) (hitG x.2.1.2.2.1 (outL d.1).toNat) x.1.1.toNat : Nat), true) else (0, false)
def Got (w : World) (r : Int × Bool) (e : Ending) (w' : World) : Prop := e = .returned (.tuple #[.int .i64 r.1, .bool r.2]) ∧ Ext w w'
theorem res_no {d : shModel.T} {x : shExamples.T} (h : ¬ okD d x) : res d x = (0, false) := by unfold res; rw [if_neg h]
theorem cs_cell {w : World} {g : Nat} {cs : List Value} (h : Cs w (some ⟨g, 0, none⟩) cs) (j : Nat) {v : Value} (hv : cs[j]? = some v) : w.cell? ⟨g, j, none⟩ = some v := by have := h.cell j v hv; rwa [adr_row] at this
theorem beq_nat {a b : Nat} : (((a : Nat) : Int) == (b : Int)) = decide (a = b) := by
  by_cases h : a = b
  · subst h; simp
  · simp [h]; omega
end Go.Proofs.Ytlimabbeaimdgaa.lCountCorrect
