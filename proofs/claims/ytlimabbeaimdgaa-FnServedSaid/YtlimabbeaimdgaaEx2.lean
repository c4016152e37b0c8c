/- Values of numbers: order, whole numbers, widening and narrowing. -/
import Derived.Test.YtlimabbeaimdgaaEx
namespace Go.Proofs.Ytlimabbeaimdgaa
set_option linter.unusedSimpArgs false
set_option linter.unusedVariables false
open Go.RowKit
namespace Ex
open Ieee

/-- The value of a finite number, in units. -/
def Val (k : FloatKind) (b : Nat) (v : Int) : Prop := ∃ s m p, k.decode b = .number s m p ∧ -1074 ≤ p ∧ vs s m p = v
theorem Val.order {k : FloatKind} {a b : Nat} {v u : Int} (h : Val k a v) (h' : Val k b u) : k.format.order a b = some (compare v u) := by
  obtain ⟨s, m, p, h1, h2, rfl⟩ := h
  obtain ⟨t, n, q, g1, g2, rfl⟩ := h'
  show (k.decode a).order (k.decode b) = _
  rw [h1, g1, order_val h2 g2]
theorem Val.notNaN {k : FloatKind} {a : Nat} {v : Int} (h : Val k a v) : (k.decode a).isNaN = false := by
  obtain ⟨s, m, p, h1, _, _⟩ := h
  rw [h1]; rfl
theorem cmp_lt {a b : Int} : (compare a b = .lt) ↔ a < b := by
  show compareOfLessAndEq a b = .lt ↔ _
  unfold compareOfLessAndEq
  split
  · simp_all
  · split <;> simp_all
theorem cmp_eq {a b : Int} : (compare a b = .eq) ↔ a = b := by
  show compareOfLessAndEq a b = .eq ↔ _
  unfold compareOfLessAndEq
  split
  · simp; omega
  · split <;> simp_all
theorem cmp_gt {a b : Int} : (compare a b = .gt) ↔ b < a := by
  show compareOfLessAndEq a b = .gt ↔ _
  unfold compareOfLessAndEq
  split
  · simp; omega
  · split
    · simp; omega
    · simp; omega
theorem Val.leq {k : FloatKind} {a b : Nat} {v u : Int} (h : Val k a v) (h' : Val k b u) : (k.format.order a b == some .lt || k.format.order a b == some .eq) = decide (v ≤ u) := by
  rw [h.order h', Bool.eq_iff_iff]
  simp [cmp_lt, cmp_eq]
  omega
theorem Val.geq {k : FloatKind} {a b : Nat} {v u : Int} (h : Val k a v) (h' : Val k b u) : (k.format.order a b == some .gt || k.format.order a b == some .eq) = decide (u ≤ v) := by
  rw [h.order h', Bool.eq_iff_iff]
  simp [cmp_gt, cmp_eq]
  omega
theorem Val.neq {k : FloatKind} {a b : Nat} {v u : Int} (h : Val k a v) (h' : Val k b u) : (k.format.order a b != some .eq) = !decide (v = u) := by
  rw [h.order h']
  by_cases hv : v = u
  · simp [cmp_eq.2 hv, hv]
  · have : compare v u ≠ .eq := fun h => hv (cmp_eq.1 h)
    simp [this, hv]
theorem Val.eq {k : FloatKind} {a b : Nat} {v u : Int} (h : Val k a v) (h' : Val k b u) : (k.format.order a b == some .eq) = decide (v = u) := by
  rw [h.order h', Bool.eq_iff_iff]
  simp [cmp_eq]
theorem Val.lt {k : FloatKind} {a b : Nat} {v u : Int} (h : Val k a v) (h' : Val k b u) : (k.format.order a b == some .lt) = decide (v < u) := by
  rw [h.order h', Bool.eq_iff_iff]
  simp [cmp_lt]
theorem vs_abs (s : Bool) (m : Nat) (p : Int) : (vs s m p).natAbs = vm m p := by unfold vs; cases s <;> simp
/-- The numbers of 32 bits. -/
theorem dec32 {b : Nat} {s : Bool} {m : Nat} {e : Int} (hd : FloatKind.f32.decode b = .number s m e) : m < 2 ^ 24 ∧ -149 ≤ e ∧ e ≤ 104 := by
  have hd' : Ieee.single.read b = .number s m e := hd
  have hs : (Ieee.single).signWeight = 2147483648 := by decide
  have hi : (Ieee.single).infRung = 2139095040 := by decide
  have hbi : (Ieee.single).binade = 8388608 := by decide
  have hlp : (Ieee.single).leastPlace = -149 := by decide
  unfold Ieee.Format.read at hd'
  simp only [hs, hi, hbi, hlp] at hd'
  split at hd'
  · cases hd'; omega
  · split at hd'
    · cases hd'; omega
    · split at hd' <;> cases hd'
theorem fmt (k : FloatKind) : -1074 ≤ k.format.leastPlace ∧ k.format.leastPlace ≤ -149 ∧ 24 ≤ k.format.fractionBits + 1 ∧ (149 : Nat) + 2 < 2 ^ k.format.exponentBits ∧ (0 - k.format.leastPlace).toNat + 2 < 2 ^ k.format.exponentBits := by
  cases k
  · exact ⟨by decide, by decide, by decide, by decide, by decide⟩
  · exact ⟨by decide, by decide, by decide, by decide, by decide⟩
/-- Small whole numbers are numbers of both kinds. -/
theorem write_int (k : FloatKind) (s : Bool) {q : Nat} (hq : q < 2 ^ 24) : ∃ k' p', k.decode (k.encode (.number s q 0)) = .number s k' p' ∧ -1074 ≤ p' ∧ vm k' p' = q * U := by
  obtain ⟨f1, f2, f3, f4, f5⟩ := fmt k
  obtain ⟨k', p', h1, h2, h3, h4, h5⟩ := write_rep k.format s (k := q) (m := q) (p := 0) (e := 0) (by omega) f1 (by omega) (Nat.lt_of_lt_of_le hq (Nat.pow_le_pow_right (by decide) f3)) rfl f5
  exact ⟨k', p', h1, by omega, by rw [h3, vm_int]⟩
theorem near_val (k : FloatKind) {n : Int} (hn : n.natAbs < 2 ^ 24) : Val k (k.nearest n) (n * U) := by
  obtain ⟨k', p', h1, h2, h3⟩ := write_int k (decide (n < 0)) hn
  refine ⟨_, k', p', h1, h2, ?_⟩
  unfold vs
  rw [h3]
  rcases Int.lt_or_le n 0 with h | h
  · rw [decide_eq_true h, if_pos rfl]
    rw [show n = -(n.natAbs : Int) by omega, Int.neg_mul]
    simp
  · rw [decide_eq_false (by omega), if_neg (by simp)]
    rw [show n = (n.natAbs : Int) by omega]
    simp
/-- The same number in 64 bits. -/
theorem wide {b : Nat} {s : Bool} {m : Nat} {e : Int} (hd : FloatKind.f32.decode b = .number s m e) : ∃ k p, FloatKind.f64.decode (fconv .f32 b .f64) = .number s k p ∧ -1074 ≤ p ∧ vm k p = vm m e := by
  obtain ⟨h1, h2, h3⟩ := dec32 hd
  have hw := widen_small s (m := m) (e := e) (by omega) h3
  have hc : fconv .f32 b .f64 = FloatKind.f64.encode (.number s m e) := by
    unfold fconv floatToFloatBits
    rw [if_neg (by decide), hd]
    simp [hw]
  rw [hc]
  have hlp : (Ieee.double).leastPlace = -1074 := by decide
  have h5 : 2 ^ (Ieee.double).exponentBits = 2048 := by decide
  obtain ⟨k', p', g1, g2, g3, g4, g5⟩ := write_rep Ieee.double s (k := m) (m := m) (p := e) (e := e) (by omega) (by decide) (by omega) (Nat.lt_of_lt_of_le h1 (by decide)) rfl (by rw [hlp, h5]; omega)
  exact ⟨k', p', g1, by omega, g3⟩
/-- A number's sign is cleared. -/
theorem abs64 {x : Nat} {s : Bool} {k : Nat} {p : Int} (h : FloatKind.f64.decode x = .number s k p) : FloatKind.f64.decode (x % 9223372036854775808) = .number false k p := by
  have h' : Ieee.double.read x = .number s k p := h
  show Ieee.double.read (x % 9223372036854775808) = _
  have hs : (Ieee.double).signWeight = 9223372036854775808 := by decide
  unfold Ieee.Format.read at h' ⊢
  simp only [hs] at h' ⊢
  have h1 : x % 9223372036854775808 / 9223372036854775808 = 0 := Nat.div_eq_of_lt (Nat.mod_lt _ (by decide))
  rw [h1, Nat.mod_mod]
  split at h'
  · rename_i hc
    rw [if_pos hc]; cases h'; rfl
  · rename_i hc
    rw [if_neg hc]
    split at h'
    · rename_i hc2
      rw [if_pos hc2]; cases h'; rfl
    · split at h' <;> cases h'
theorem abs64_inf {x : Nat} {s : Bool} (h : FloatKind.f64.decode x = .infinity s) : FloatKind.f64.decode (x % 9223372036854775808) = .infinity false := by
  have h' : Ieee.double.read x = .infinity s := h
  show Ieee.double.read (x % 9223372036854775808) = _
  have hs : (Ieee.double).signWeight = 9223372036854775808 := by decide
  unfold Ieee.Format.read at h' ⊢
  simp only [hs] at h' ⊢
  have h1 : x % 9223372036854775808 / 9223372036854775808 = 0 := Nat.div_eq_of_lt (Nat.mod_lt _ (by decide))
  rw [h1, Nat.mod_mod]
  split at h'
  · cases h'
  · rename_i hc
    rw [if_neg hc]
    split at h'
    · cases h'
    · rename_i hc2
      rw [if_neg hc2]
      split at h'
      · rename_i hc3
        rw [if_pos hc3]; rfl
      · cases h'
theorem abs64_nan {x : Nat} (h : (FloatKind.f64.decode x).isNaN = true) : (FloatKind.f64.decode (x % 9223372036854775808)).isNaN = true := by
  change (Ieee.double.read x).isNaN = true at h
  show (Ieee.double.read (x % 9223372036854775808)).isNaN = true
  have hs : (Ieee.double).signWeight = 9223372036854775808 := by decide
  unfold Ieee.Format.read at h ⊢
  simp only [hs] at h ⊢
  rw [Nat.mod_mod]
  split at h
  · cases h
  · rename_i hc
    rw [if_neg hc]
    split at h
    · cases h
    · rename_i hc2
      rw [if_neg hc2]
      split at h
      · cases h
      · rename_i hc3
        rw [if_neg hc3]; rfl
/-- A number of 32 bits that was widened is narrowed exactly. -/
theorem back {x k : Nat} {s : Bool} {p : Int} {m : Nat} {e : Int} (hx : FloatKind.f64.decode x = .number s k p) (hp : -1074 ≤ p) (hm : m < 2 ^ 24) (he : -149 ≤ e) (he2 : e ≤ 104) (hv : vm k p = vm m e) :
    ∃ k' p', FloatKind.f32.decode (fconv .f64 x .f32) = .number s k' p' ∧ -1074 ≤ p' ∧ vm k' p' = vm m e ∧ fover .f64 x .f32 = false := by
  have hlp : (Ieee.single).leastPlace = -149 := by decide
  obtain ⟨k', p', g1, g2, g3, g4, g5⟩ := write_rep Ieee.single s (k := k) (m := m) (p := p) (e := e) hp (by decide) (by omega) hm hv (by
      have h5 : 2 ^ (Ieee.single).exponentBits = 256 := by decide
      rw [hlp, h5]; omega)
  have hn : (FloatKind.f32.decode (FloatKind.f32.encode (.number s k p))).isInfinity = false := by
    show (Ieee.single.read (Ieee.single.write (.number s k p))).isInfinity = false
    rw [g1]; rfl
  have hc : floatToFloatBits .f64 x .f32 = some (FloatKind.f32.encode (.number s k p)) := by
    unfold floatToFloatBits
    rw [if_neg (by decide), hx]
    simp [hn]
  refine ⟨k', p', ?_, by omega, by rw [g3, hv], ?_⟩
  · unfold fconv
    rw [hc]
    exact g1
  · unfold fover
    rw [hc]
    simp
end Ex
end Go.Proofs.Ytlimabbeaimdgaa
