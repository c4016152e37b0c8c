/- Numbers out of bytes. -/
import Derived.Test.YtlimabbeaimdgaaBy2
import Derived.Test.YtlimabbeaimdgaaKb
namespace Go.Proofs.Ytlimabbeaimdgaa
set_option linter.unusedSimpArgs false
set_option linter.unusedVariables false
open Go.RowKit

/-- The number of bytes, the least one first. -/
def leN : List UInt8 → Int
  | [] => 0
  | b :: l => (b.toNat : Int) + 256 * leN l
theorem leN_bd : ∀ (l : List UInt8) (m : Nat), l.length ≤ m → 0 ≤ leN l ∧ leN l < (256 : Int) ^ m
  | [], m, _ => ⟨Int.le_refl _, Int.pow_pos (by decide)⟩
  | b :: l, 0, h => by simp at h
  | b :: l, m + 1, h => by
    obtain ⟨h1, h2⟩ := leN_bd l m (by simpa using h)
    have hb := b.toNat_lt
    simp only [leN]
    rw [Int.pow_succ]
    constructor <;> omega
theorem leN_at {l : List UInt8} {k : Nat} (h : k < l.length) : leN (l.drop k) = (l[k].toNat : Int) + 256 * leN (l.drop (k + 1)) := by
  rw [List.drop_eq_getElem_cons h]; rfl
theorem i64_or8 {n b : Int} (h0 : 0 ≤ n) (h1 : n < 36028797018963968) (h2 : 0 ≤ b) (h3 : b < 256) : bits .or .i64 (n * 256) b = n * 256 + b := by
  obtain ⟨x, rfl⟩ : ∃ x : Nat, n = x := ⟨n.toNat, by omega⟩
  obtain ⟨y, rfl⟩ : ∃ y : Nat, b = y := ⟨b.toNat, by omega⟩
  have key : (BitVec.ofInt 64 ((x : Int) * 256) ||| BitVec.ofInt 64 (y : Int)).toNat = x * 256 + y := by
    rw [BitVec.toNat_or, BitVec.toNat_ofInt, BitVec.toNat_ofInt]
    have e1 : (((x : Int) * 256) % ((2 ^ 64 : Nat) : Int)).toNat = x <<< 8 := by
      rw [Nat.shiftLeft_eq]; omega
    have e2 : ((y : Int) % ((2 ^ 64 : Nat) : Int)).toNat = y := by omega
    rw [e1, e2, ← Nat.shiftLeft_add_eq_or_of_lt (by omega : y < 2 ^ 8), Nat.shiftLeft_eq]
  show IntKind.i64.wrap ((BitVec.ofInt 64 ((x : Int) * 256) ||| BitVec.ofInt 64 (y : Int)).toNat : Nat) = _
  rw [key, IntKind.wrap_i64]
  omega

end Go.Proofs.Ytlimabbeaimdgaa
