/- Numbers out of bytes. -/
import Derived.Test.YtmcafdcabbighaaBy2
import Derived.Test.YtmcafdcabbighaaThings
namespace Go.Proofs.Ytmcafdcabbighaa
set_option linter.unusedSimpArgs false
set_option linter.unusedVariables false
open Go.RowKit

/-- The number of bytes, the least one first. -/
def leN : List UInt8 → Int
  | [] => 0
  | b :: l => (b.toNat : Int) + 256 * leN l
theorem leN_bd : ∀ (l : List UInt8) (m : Nat), l.length ≤ m → 0 ≤ leN l ∧ leN l < (256 : Int) ^ m
  | [], m, _ => ⟨Int.le_refl _, Int.pow_pos (by decide)⟩
  | b :: l, 0, h => by simp at h
  | b :: l, m + 1, h => by
    obtain ⟨h1, h2⟩ := leN_bd l m (by simpa using h)
    have hb := b.toNat_lt
    simp only [leN]
    rw [Int.pow_succ]
    constructor <;> omega
theorem leN_at {l : List UInt8} {k : Nat} (h : k < l.length) : leN (l.drop k) = (l[k].toNat : Int) + 256 * leN (l.drop (k + 1)) := by
  rw [List.drop_eq_getElem_cons h]; rfl
theorem i64_or8 {n b : Int} (h0 : 0 ≤ n) (h1 : n < 36028797018963968) (h2 : 0 ≤ b) (h3 : b < 256) : bits .or .i64 (n * 256) b = n * 256 + b := by
  obtain ⟨x, rfl⟩ : ∃ x : Nat, n = x := ⟨n.toNat, by omega⟩
  obtain ⟨y, rfl⟩ : ∃ y : Nat, b = y := ⟨b.toNat, by omega⟩
  have key : (BitVec.ofInt 64 ((x : Int) * 256) ||| BitVec.ofInt 64 (y : Int)).toNat = x * 256 + y := by
    rw [BitVec.toNat_or, BitVec.toNat_ofInt, BitVec.toNat_ofInt]
    have e1 : (((x : Int) * 256) % ((2 ^ 64 : Nat) : Int)).toNat = x <<< 8 := by
      rw [Nat.shiftLeft_eq]; omega
    have e2 : ((y : Int) % ((2 ^ 64 : Nat) : Int)).toNat = y := by omega
    rw [e1, e2, ← Nat.shiftLeft_add_eq_or_of_lt (by omega : y < 2 ^ 8), Nat.shiftLeft_eq]
  show IntKind.i64.wrap ((BitVec.ofInt 64 ((x : Int) * 256) ||| BitVec.ofInt 64 (y : Int)).toNat : Nat) = _
  rw [key, IntKind.wrap_i64]
  omega

set_option maxRecDepth 100000 in
set_option maxHeartbeats 1000000 in
theorem l08Number_any (l : List UInt8) (w : World) (hl : l.length ≤ 7) : Calls Try.prog 105 #[.string ⟨l.toArray⟩] w fun e w' => e = .returned (.int .i64 (leN l)) ∧ w = w' := by
  have hz : (⟨l.toArray⟩ : ByteArray).size = l.length := by simp [ByteArray.size]
  generalize hn : l.length = n at *
  go_enter Try.func105, Try.ntmps105
  go_wp2
  go_loopw [3, 4] (fun nv iv wr => ∃ (k : Nat), k ≤ n ∧ iv = .int .i64 ((k : Int) - 1) ∧ nv = .int .i64 (leN (l.drop k)) ∧ wr = w) (fun _ iv _ => (intOf iv + 1).toNat)
  case atStart => exact ⟨n, by omega, by go_num, by rw [List.drop_of_length_le (by omega)]; rfl, rfl⟩
  case round =>
    obtain ⟨k, hk, rfl, rfl, rfl⟩ := hrel
    cases k with
    | zero =>
      go_wp2
      go_ret
      exact ⟨rfl, rfl⟩
    | succ k =>
      have hkl : k < l.length := by omega
      have hat := leN_at hkl
      have hbd := leN_bd (l.drop (k + 1)) 6 (by rw [List.length_drop]; omega)
      have hb := l[k].toNat_lt
      have h256 : (256 : Int) ^ 6 = 281474976710656 := by decide
      rw [h256] at hbd
      generalize leN (l.drop (k + 1)) = N at *
      have hor := i64_or8 (n := N) (b := (l[k].toNat : Int)) (by omega) (by omega) (by omega) (by omega)
      have hks : k < (⟨l.toArray⟩ : ByteArray).size := by rw [hz]; omega
      have hg : wrap64 (((⟨l.toArray⟩ : ByteArray)[k]'hks).toNat : Int) = (l[k].toNat : Int) := by
        have : (⟨l.toArray⟩ : ByteArray)[k]'hks = l[k] := rfl
        rw [this]; unfold wrap64; omega
      go_wp2
      go_roundw
      case rel => exact ⟨k, by omega, by go_num, by rw [hat]; congr 1; omega, trivial⟩
      case measure => first | (simp [intOf]; done) | (simp [intOf]; omega)
end Go.Proofs.Ytmcafdcabbighaa
