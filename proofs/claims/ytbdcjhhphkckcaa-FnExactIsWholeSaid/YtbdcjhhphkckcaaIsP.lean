/- IsWhole, in plain terms. -/
import Derived.Test.YtbdcjhhphkckcaaEx2
import Derived.Test.YtbdcjhhphkckcaaKd
namespace Go.Proofs.Ytbdcjhhphkckcaa
set_option linter.unusedSimpArgs false
set_option linter.unusedVariables false
open Go.RowKit
namespace Ex
open Ieee

def leqB (k : FloatKind) (a b : Nat) : Bool := k.format.order a b == some .lt || k.format.order a b == some .eq
def geqB (k : FloatKind) (a b : Nat) : Bool := k.format.order a b == some .gt || k.format.order a b == some .eq
def leS (b M : Nat) : Bool := match FloatKind.f32.decode b with | .number _ m e => decide (vm m e ≤ M * U) | _ => false
def wB (b M : Nat) : Bool := match FloatKind.f32.decode b with | .number _ m e => decide (vm m e ≤ M * U) && decide (vm m e / U * U = vm m e) | _ => false
theorem wB_cn (b M : Nat) : wB (cn .f32 b) M = wB b M := by
  by_cases h : (FloatKind.f32.decode b).isNaN = true
  · have h2 := isNaN_cn .f32 b
    rw [h] at h2
    obtain ⟨s, f, h3⟩ := eq_nan_of_isNaN h
    obtain ⟨s', f', h4⟩ := eq_nan_of_isNaN h2
    unfold wB
    rw [h3, h4]
  · rw [cn_not (by simpa using h)]
theorem near_lt (M : Nat) : FloatKind.f32.nearest (M : Int) < 2147483648 := by
  show Ieee.single.nearest (decide ((M : Int) < 0)) (M : Int).natAbs 0 < _
  rw [decide_eq_false (by omega)]
  have hi : (Ieee.single).infRung = 2139095040 := by decide
  unfold Format.nearest Format.word
  simp only [Bool.false_eq_true, if_false]
  split
  · decide
  · rw [hi]; omega
theorem xor31 {x : Nat} (h : x < 2 ^ 31) : x ^^^ 2 ^ 31 = 2 ^ 31 + x := by
  have h2 := Nat.two_pow_add_eq_or_of_lt h 1
  rw [Nat.mul_one] at h2
  rw [h2]
  apply Nat.eq_of_testBit_eq
  intro j
  rw [Nat.testBit_xor, Nat.testBit_or, Nat.testBit_two_pow]
  by_cases hj : 31 = j
  · subst hj
    rw [Nat.testBit_lt_two_pow h]; simp
  · simp [hj]
theorem neg_val {x : Nat} {v : Int} (hx : x < 2147483648) (h : Val .f32 x v) (hv : 0 ≤ v) : Val .f32 (x ^^^ 2 ^ (FloatKind.f32.format.exponentBits + FloatKind.f32.format.fractionBits)) (-v) := by
  obtain ⟨s, m, p, h1, h2, h3⟩ := h
  rw [show FloatKind.f32.format.exponentBits + FloatKind.f32.format.fractionBits = 31 from rfl, xor31 (by omega)]
  have h' : Ieee.single.read x = .number s m p := h1
  refine ⟨true, m, p, ?_, h2, ?_⟩
  · show Ieee.single.read (2 ^ 31 + x) = _
    have hs : (Ieee.single).signWeight = 2147483648 := by decide
    unfold Format.read at h' ⊢
    simp only [hs] at h' ⊢
    have e1 : (2 ^ 31 + x) / 2147483648 = 1 := by omega
    have e2 : (2 ^ 31 + x) % 2147483648 = x % 2147483648 := by omega
    rw [e1, e2]
    split at h'
    · rename_i hc
      rw [if_pos hc]; cases h'; rfl
    · rename_i hc
      rw [if_neg hc]
      split at h'
      · rename_i hc2
        rw [if_pos hc2]; cases h'; rfl
      · split at h' <;> cases h'
  · have hab := vs_abs s m p
    rw [h3] at hab
    show -(vm m p : Int) = -v
    omega
theorem order_inf (s : Bool) {x y : Nat} {v : Int} (hx : FloatKind.f32.decode x = .infinity s) (hy : Val .f32 y v) : FloatKind.f32.format.order x y = some (if s then .lt else .gt) := by
  obtain ⟨t, m, p, h1, _, _⟩ := hy
  show (FloatKind.f32.decode x).order (FloatKind.f32.decode y) = _
  rw [hx, h1]; rfl
theorem order_nan0 {k : FloatKind} {x : Nat} (y : Nat) (hx : (k.decode x).isNaN = true) : k.format.order x y = none := by
  show (k.decode x).order (k.decode y) = _
  exact order_nan_l hx
theorem nearM (M : Nat) (hM : M ≤ 1000) : Val .f32 (FloatKind.f32.nearest (M : Int)) ((M * U : Nat) : Int) := by
  have := near_val .f32 (n := (M : Int)) (by omega)
  rwa [← Int.natCast_mul] at this
theorem int_of {b : Nat} {s : Bool} {m : Nat} {e : Int} (hd : FloatKind.f32.decode b = .number s m e) {M : Nat} (hM : M ≤ 1000) (hv : vm m e ≤ M * U) :
    floatToIntVal .f32 b .i64 = some (if s then -((vm m e / U : Nat) : Int) else ((vm m e / U : Nat) : Int)) ∧ vm m e / U ≤ 1000 := by
  obtain ⟨h1, h2, h3⟩ := dec32 hd
  have hq : vm m e / U ≤ 1000 := Nat.le_trans (Nat.div_le_of_le_mul (by rw [Nat.mul_comm]; exact hv)) hM
  refine ⟨?_, hq⟩
  unfold floatToIntVal
  have ht : (FloatKind.f32.decode b).toInt .zero = some (if s then -((vm m e / U : Nat) : Int) else ((vm m e / U : Nat) : Int)) := by
    unfold Datum.toInt
    rw [hd, integral_zero s m (by omega)]
    show some (signed s _ 0) = _
    unfold signed
    rw [Nat.shiftLeft_zero]
  rw [ht]
  generalize vm m e / U = q at hq
  have hmin : IntKind.i64.min = -9223372036854775808 := by decide
  have hmax : IntKind.i64.max = 9223372036854775807 := by decide
  cases s
  · simp [hmin, hmax]; omega
  · simp [hmin, hmax]; omega
/-- What the reference's test comes to. -/
theorem spec_cases (b M : Nat) (hM : M ≤ 1000) :
    (leqB .f32 b (FloatKind.f32.nearest (M : Int)) = false ∧ wB b M = false) ∨
    (leqB .f32 b (FloatKind.f32.nearest (M : Int)) = true ∧ geqB .f32 b (FloatKind.f32.nearest (M : Int) ^^^ 2 ^ (FloatKind.f32.format.exponentBits + FloatKind.f32.format.fractionBits)) = false ∧ wB b M = false) ∨
    (leqB .f32 b (FloatKind.f32.nearest (M : Int)) = true ∧ geqB .f32 b (FloatKind.f32.nearest (M : Int) ^^^ 2 ^ (FloatKind.f32.format.exponentBits + FloatKind.f32.format.fractionBits)) = true ∧
      ∃ n, floatToIntVal .f32 b .i64 = some n ∧ (FloatKind.f32.format.order b (FloatKind.f32.nearest n) != some .eq) = !wB b M) := by
  have hF := nearM M hM
  have hG := neg_val (near_lt M) hF (by omega)
  cases hd : FloatKind.f32.decode b with
  | nan s f =>
    left
    have hn : (FloatKind.f32.decode b).isNaN = true := by rw [hd]; rfl
    exact ⟨by unfold leqB; rw [order_nan0 _ hn]; rfl, by unfold wB; rw [hd]⟩
  | infinity s =>
    cases s
    · left
      exact ⟨by unfold leqB; rw [order_inf false hd hF]; rfl, by unfold wB; rw [hd]⟩
    · right; left
      exact ⟨by unfold leqB; rw [order_inf true hd hF]; rfl, by unfold geqB; rw [order_inf true hd hG]; rfl, by unfold wB; rw [hd]⟩
  | number s m e =>
    obtain ⟨h1, h2, h3⟩ := dec32 hd
    have hb : Val .f32 b (vs s m e) := ⟨s, m, e, hd, by omega, rfl⟩
    have hl : leqB .f32 b (FloatKind.f32.nearest (M : Int)) = decide (vs s m e ≤ ((M * U : Nat) : Int)) := hb.leq hF
    have hg : geqB .f32 b (FloatKind.f32.nearest (M : Int) ^^^ 2 ^ (FloatKind.f32.format.exponentBits + FloatKind.f32.format.fractionBits)) = decide (-((M * U : Nat) : Int) ≤ vs s m e) := hb.geq hG
    rw [hl, hg]
    have hab := vs_abs s m e
    have hw : wB b M = (decide (vm m e ≤ M * U) && decide (vm m e / U * U = vm m e)) := by unfold wB; rw [hd]
    by_cases c1 : vs s m e ≤ ((M * U : Nat) : Int)
    · by_cases c2 : -((M * U : Nat) : Int) ≤ vs s m e
      · right; right
        have hv : vm m e ≤ M * U := by omega
        obtain ⟨hi, hq⟩ := int_of hd hM hv
        refine ⟨decide_eq_true c1, decide_eq_true c2, _, hi, ?_⟩
        rw [hw, decide_eq_true hv, Bool.true_and]
        have hnq : ∀ q : Nat, q ≤ 1000 → Val .f32 (FloatKind.f32.nearest (if s then -(q : Int) else (q : Int))) ((if s then -(q : Int) else (q : Int)) * U) := fun q hq => near_val .f32 (by cases s <;> simp <;> omega)
        have hnear := hb.neq (hnq _ hq)
        rw [hnear]
        congr 1
        have hvs : vs s m e = if s then -(vm m e : Int) else (vm m e : Int) := rfl
        rw [hvs]
        have hqU : ((vm m e / U : Nat) : Int) * (U : Int) = ((vm m e / U * U : Nat) : Int) := by rw [Int.natCast_mul]
        generalize vm m e / U * U = z at hqU ⊢
        cases s
        · simp only [Bool.false_eq_true, if_false]
          rw [hqU, Bool.eq_iff_iff]
          simp only [decide_eq_true_eq]; omega
        · simp only [if_true]
          rw [Int.neg_mul, hqU, Bool.eq_iff_iff]
          simp only [decide_eq_true_eq]; omega
      · right; left
        exact ⟨decide_eq_true c1, decide_eq_false c2, by rw [hw, decide_eq_false (show ¬ vm m e ≤ M * U by omega), Bool.false_and]⟩
    · left
      exact ⟨decide_eq_false c1, by rw [hw, decide_eq_false (show ¬ vm m e ≤ M * U by omega), Bool.false_and]⟩
/-- The size of a number, as the program takes it. -/
def absB (x : Nat) : Nat := x % 9223372036854775808
def sizeR (b u : Nat) : Prop := ∀ M : Nat, M ≤ 1000 → leqB .f32 u (FloatKind.f32.nearest (M : Int)) = leS b M
theorem size_nan {b u : Nat} (hb : (FloatKind.f32.decode b).isNaN = true) (hu : (FloatKind.f32.decode u).isNaN = true) : sizeR b u := by
  intro M hM
  obtain ⟨s, f, h3⟩ := eq_nan_of_isNaN hb
  unfold leqB leS
  rw [order_nan0 _ hu, h3]; rfl
theorem fover_nan {k k' : FloatKind} {x : Nat} (h : (k.decode x).isNaN = true) : fover k x k' = false := by
  unfold fover; rw [h]; rfl
theorem size_num {b : Nat} (hb : (FloatKind.f32.decode b).isNaN = false) : fover .f64 (absB (fconv .f32 b .f64)) .f32 = false ∧ (FloatKind.f64.decode (absB (fconv .f32 b .f64))).isNaN = false ∧ sizeR b (fconv .f64 (absB (fconv .f32 b .f64)) .f32) := by
  cases hd : FloatKind.f32.decode b with
  | nan s f => rw [hd] at hb; cases hb
  | infinity s =>
    have h1 := widen_inf hd
    have h2 : FloatKind.f64.decode (absB (fconv .f32 b .f64)) = .infinity false := abs64_inf h1
    have h3 : floatToFloatBits .f64 (absB (fconv .f32 b .f64)) .f32 = some (FloatKind.f32.encode (.infinity false)) := by
      unfold floatToFloatBits
      rw [if_neg (by decide), h2]
    refine ⟨by unfold fover; rw [h3]; simp, by rw [h2]; rfl, fun M hM => ?_⟩
    have h4 : fconv .f64 (absB (fconv .f32 b .f64)) .f32 = FloatKind.f32.encode (.infinity false) 
      := by show (floatToFloatBits .f64 (absB (fconv .f32 b .f64)) .f32).getD _ = _; rw [h3]; rfl
    rw [h4]
    have h5 : FloatKind.f32.decode (FloatKind.f32.encode (.infinity false)) = .infinity false := by decide +kernel
    unfold leqB leS
    rw [order_inf false h5 (nearM M hM), hd]
    rfl
  | number s m e =>
    obtain ⟨h1, h2, h3⟩ := dec32 hd
    obtain ⟨k, p, g1, g2, g3⟩ := wide hd
    have g4 := abs64 g1
    obtain ⟨k', p', r1, r2, r3, r4⟩ := back g4 g2 h1 h2 h3 g3
    refine ⟨r4, by rw [show absB (fconv .f32 b .f64) = fconv .f32 b .f64 % 9223372036854775808 from rfl, g4]; rfl, fun M hM => ?_⟩
    have hu : Val .f32 (fconv .f64 (absB (fconv .f32 b .f64)) .f32) (vs false k' p') := ⟨false, k', p', r1, r2, rfl⟩
    have := hu.leq (nearM M hM)
    unfold leqB
    rw [this]
    unfold leS
    rw [hd, show vs false k' p' = (vm k' p' : Int) from rfl, r3]
    simp only
    rw [Bool.eq_iff_iff]
    simp only [decide_eq_true_eq]; omega
/-- What a number is cut to, as the program cuts it. -/
def truncB (x : Nat) : Nat := FloatKind.f64.encode ((FloatKind.f64.decode x).integral .zero)
theorem trunc_num {b M : Nat} (hM : M ≤ 1000) (hl : leS b M = true) : (FloatKind.f64.decode (fconv .f32 b .f64)).isNaN = false ∧ (FloatKind.f64.format.order (truncB (fconv .f32 b .f64)) (fconv .f32 b .f64) != some .eq) = !wB b M := by
  cases hd : FloatKind.f32.decode b with
  | nan s f => unfold leS at hl; rw [hd] at hl; cases hl
  | infinity s => unfold leS at hl; rw [hd] at hl; cases hl
  | number s m e =>
    have hv : vm m e ≤ M * U := by unfold leS at hl; rw [hd] at hl; simpa using hl
    obtain ⟨k, p, g1, g2, g3⟩ := wide hd
    refine ⟨by rw [g1]; rfl, ?_⟩
    have hq : vm m e / U ≤ 1000 := Nat.le_trans (Nat.div_le_of_le_mul (by rw [Nat.mul_comm]; exact hv)) hM
    obtain ⟨k', p', r1, r2, r3⟩ := write_int .f64 s (q := vm m e / U) (by omega)
    have ht : truncB (fconv .f32 b .f64) = FloatKind.f64.encode (.number s (vm m e / U) 0) := by unfold truncB; rw [g1, integral_zero s k g2, g3]
    rw [ht]
    have v1 : Val .f64 (FloatKind.f64.encode (.number s (vm m e / U) 0)) (vs s k' p') := ⟨s, k', p', r1, r2, rfl⟩
    have v2 : Val .f64 (fconv .f32 b .f64) (vs s k p) := ⟨s, k, p, g1, g2, rfl⟩
    rw [v1.neq v2]
    have hw : wB b M = (decide (vm m e ≤ M * U) && decide (vm m e / U * U = vm m e)) := by unfold wB; rw [hd]
    rw [hw, decide_eq_true hv, Bool.true_and]
    congr 1
    unfold vs
    rw [r3, g3]
    generalize vm m e / U * U = z
    cases s
    · simp only [Bool.false_eq_true, if_false]
      rw [Bool.eq_iff_iff]
      simp only [decide_eq_true_eq]; omega
    · simp only [if_true]
      rw [Bool.eq_iff_iff]
      simp only [decide_eq_true_eq]; omega
theorem wB_le {b M : Nat} (h : leS b M = false) : wB b M = false := by
  unfold leS at h
  unfold wB
  cases hd : FloatKind.f32.decode b with
  | nan s f => rfl
  | infinity s => rfl
  | number s m e => rw [hd] at h; simp only at h ⊢; rw [h, Bool.false_and]
end Ex
end Go.Proofs.Ytbdcjhhphkckcaa
