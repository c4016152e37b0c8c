/- FnNumberBytes: numbers and their bytes, the plain part. -/
import Derived.Test.YtlimabbeaimdgaaBNum
import Derived.Test.YtlimabbeaimdgaaNumB
import Derived.Test.YtlimabbeaimdgaaStp
import Derived.Test.YtlimabbeaimdgaaArch
import Derived.Test.YtlimabbeaimdgaaKc
namespace Go.Proofs.Ytlimabbeaimdgaa.lNumberBytes
set_option linter.unusedSimpArgs false
set_option linter.unusedVariables false
open Go.RowKit lBytesNumbers

theorem byteOf_val (x : Int) : ((byteOf x).toNat : Int) = x % 256 := byteOf_toNat x
theorem leN_leB {x : Nat} (h : x < 4294967296) : leN (leB (bitsOf x) 4) = x := by
  have hb : bitsOf x = (x : Int) := by unfold bitsOf wrap64; omega
  rw [hb]
  have e : leB (x : Int) 4 = [byteOf (shB x 0), byteOf (shB x 1), byteOf (shB x 2), byteOf (shB x 3)] := rfl
  rw [e]
  simp only [leN, byteOf_val, shB_pow]
  have e0 : ((2 ^ (8 * 0) : Nat) : Int) = 1 := by decide
  have e1 : ((2 ^ (8 * 1) : Nat) : Int) = 256 := by decide
  have e2 : ((2 ^ (8 * 2) : Nat) : Int) = 65536 := by decide
  have e3 : ((2 ^ (8 * 3) : Nat) : Int) = 16777216 := by decide
  rw [e0, e1, e2, e3]
  omega
/-- Canonical numbers of 32 bits. -/
def Can (xs : List Nat) : Prop := ∀ x ∈ xs, x < 4294967296 ∧ cn .f32 x = x
theorem can_of {vs : List Value} {xs : List Nat} (h : F32s vs xs) (hb : ∀ x ∈ xs, x < 4294967296) : Can xs := by
  intro x hx
  refine ⟨hb x hx, ?_⟩
  obtain ⟨i, hi, rfl⟩ := List.mem_iff_getElem.1 hx
  obtain ⟨b, _, h2⟩ := h.2 i hi
  have : xs.getD i 0 = xs[i] := by simp [hi]
  rw [this] at h2
  rw [← h2, cn_cn]
theorem bytes_at (xs : List Nat) : ∀ (i : Nat) (hi : i < xs.length), ((bytesOf xs).drop (4 * i)).take 4 = leB (bitsOf xs[i]) 4 := by
  induction xs with
  | nil => intro i hi; simp at hi
  | cons x xs ih =>
    intro i hi
    have hc : bytesOf (x :: xs) = leB (bitsOf x) 4 ++ bytesOf xs := rfl
    have hl := leB_length (bitsOf x) 4
    rw [hc]
    cases i with
    | zero => rw [Nat.mul_zero, List.drop_zero, List.take_append_of_le_length (by omega), List.take_of_length_le (by omega)]; rfl
    | succ i =>
      have h4 : 4 * (i + 1) = (leB (bitsOf x) 4).length + 4 * i := by omega
      rw [h4, List.drop_append, Nat.add_sub_cancel_left, List.drop_of_length_le (by omega), List.nil_append, ih i (by simpa using hi)]; rfl
theorem rawN_of (xs : List Nat) (h : Can xs) (i : Nat) (hi : i < xs.length) (m : List UInt8) : rawN (bytesOf xs ++ m) i = xs[i] := by
  have hlen := bytesOf_length xs
  unfold rawN
  rw [List.drop_append_of_le_length (by omega), List.take_append_of_le_length (by rw [List.length_drop]; omega), bytes_at xs i hi, leN_leB (h _ (List.getElem_mem hi)).1]
  rfl
theorem numsF_of (xs : List Nat) (h : Can xs) (m : List UInt8) : numsF (bytesOf xs ++ m) xs.length = xs := by
  apply List.ext_getElem
  · rw [numsF_len]
  · intro i h1 h2
    simp only [numsF, List.getElem_map, List.getElem_range]
    rw [rawN_of xs h i h2 m]
    exact (h _ (List.getElem_mem h2)).2
theorem res_back (xs : List Nat) (h : Can xs) (hl : xs.length ≤ 4096) : resL (bytesOf xs) = (xs, true) := by
  have hlen := bytesOf_length xs
  have h4 : (bytesOf xs).length / 4 = xs.length := by omega
  have hn := numsF_of xs h []
  rw [List.append_nil] at hn
  unfold resL
  rw [h4, hn, if_pos ⟨by omega, rfl⟩]
theorem res_more (xs : List Nat) : resL (bytesOf xs ++ [120]) = ([], false) := by
  unfold resL
  rw [if_neg]
  rintro ⟨_, h⟩
  have h1 := congrArg List.length h
  rw [bytesOf_length, numsF_len, List.length_append, bytesOf_length, List.length_singleton] at h1
  omega
theorem res_nan (xs : List Nat) : resL (bytesOf xs ++ [1, 0, 192, 127]) = ([], false) := by
  unfold resL
  rw [if_neg]
  rintro ⟨_, h⟩
  have hb := bytesOf_length xs
  have h4 : (bytesOf xs ++ ([1, 0, 192, 127] : List UInt8)).length / 4 = xs.length + 1 := by rw [List.length_append, hb]; show (4 * xs.length + 4) / 4 = _; omega
  rw [h4, numsF_succ, bytesOf_snoc] at h
  have h5 := (List.append_inj h (by rw [bytesOf_length, numsF_len, hb])).2
  have h6 : rawN (bytesOf xs ++ [1, 0, 192, 127]) xs.length = 2143289345 := by
    unfold rawN
    rw [← hb, List.drop_left]; decide
  rw [h6, show cn .f32 2143289345 = 2143289344 by decide +kernel] at h5
  revert h5; decide +kernel
end Go.Proofs.Ytlimabbeaimdgaa.lNumberBytes
