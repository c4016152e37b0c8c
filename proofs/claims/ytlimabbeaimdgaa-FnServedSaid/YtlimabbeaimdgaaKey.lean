/- Numbers in 32 bits in their order: each one that is a number has its place among the integers. -/
import Derived.Test.YtlimabbeaimdgaaKd
namespace Go.Proofs.Ytlimabbeaimdgaa
set_option linter.unusedSimpArgs false
set_option linter.unusedVariables false
open Go.RowKit

def key (b : Nat) : Int := match FloatKind.f32.decode b with
  | .number s m e => Rnd.sg s (Rnd.cnt m e)
  | .infinity s => Rnd.sg s (pw 6000)
  | .nan _ _ => 0
theorem key_cn {b : Nat} (h : (FloatKind.f32.decode b).isNaN = false) : key (cn .f32 b) = key b := by rw [cn_not h]
theorem kcmp_lt {a b : Int} : (compare a b = .lt) ↔ a < b := by
  unfold compare; simp only [instOrdInt, compareOfLessAndEq]
  by_cases h1 : a < b
  · simp [h1]
  · by_cases h2 : a = b
    · simp [h2]
    · simp [h1, h2]
theorem kcmp_gt {a b : Int} : (compare a b = .gt) ↔ b < a := by
  unfold compare; simp only [instOrdInt, compareOfLessAndEq]
  by_cases h1 : a < b
  · simp [h1]; omega
  · by_cases h2 : a = b
    · simp [h2]
    · simp [h1, h2]; omega
theorem kcmp_eq {a b : Int} : (compare a b = .eq) ↔ a = b := by
  unfold compare; simp only [instOrdInt, compareOfLessAndEq]
  by_cases h1 : a < b
  · simp [h1]; omega
  · by_cases h2 : a = b
    · simp [h2]
    · simp [h1, h2]
theorem key_bd {m : Nat} {e : Int} (hm : m < 16777216) (he : e ≤ 104) : Rnd.cnt m e < pw 6000 := by
  have h0 : m ≤ pw 24 := by show m ≤ 2 ^ 24; omega
  have h1 : Rnd.cnt m e ≤ pw 24 * pw (e + 4000).toNat := Nat.mul_le_mul_right _ h0
  rw [← pw_add] at h1
  have h2 := pw_le (show 24 + (e + 4000).toNat + 1 ≤ 6000 by omega)
  have h3 := pw_two (24 + (e + 4000).toNat) rfl
  have h4 := pw_pos (24 + (e + 4000).toNat)
  omega
theorem order_key {x y : Nat} (hx : (FloatKind.f32.decode x).isNaN = false) (hy : (FloatKind.f32.decode y).isNaN = false) : FloatKind.f32.format.order x y = some (compare (key x) (key y)) := by
  have hP : 0 < pw 6000 := pw_pos _
  unfold key
  cases h : FloatKind.f32.decode x with
  | nan s f => rw [h] at hx; cases hx
  | infinity s =>
    cases k : FloatKind.f32.decode y with
    | nan s f => rw [k] at hy; cases hy
    | infinity t =>
      show (FloatKind.f32.decode x).order (FloatKind.f32.decode y) = _
      rw [h, k]
      generalize pw 6000 = P at *
      cases s <;> cases t <;> simp only [Ieee.Datum.order, Rnd.sg, Option.some.injEq] <;> symm
      · exact kcmp_eq.2 rfl
      · exact kcmp_gt.2 (by simp; omega)
      · exact kcmp_lt.2 (by simp; omega)
      · exact kcmp_eq.2 rfl
    | number t m e =>
      obtain ⟨g1, g2, g3⟩ := Rnd.sgl_read (x := y) k
      have hb := key_bd g1 g3
      show (FloatKind.f32.decode x).order (FloatKind.f32.decode y) = _
      rw [h, k]
      generalize pw 6000 = P at *
      cases s <;> cases t <;> simp only [Ieee.Datum.order, Rnd.sg, Option.some.injEq] <;> symm
      · exact kcmp_gt.2 (by simp; omega)
      · exact kcmp_gt.2 (by simp; omega)
      · exact kcmp_lt.2 (by simp; omega)
      · exact kcmp_lt.2 (by simp; omega)
  | number t m e =>
    obtain ⟨g1, g2, g3⟩ := Rnd.sgl_read (x := x) h
    have hb := key_bd g1 g3
    cases k : FloatKind.f32.decode y with
    | nan s f => rw [k] at hy; cases hy
    | infinity s =>
      show (FloatKind.f32.decode x).order (FloatKind.f32.decode y) = _
      rw [h, k]
      generalize pw 6000 = P at *
      cases s <;> cases t <;> simp only [Ieee.Datum.order, Rnd.sg, Option.some.injEq] <;> symm
      · exact kcmp_lt.2 (by simp; omega)
      · exact kcmp_lt.2 (by simp; omega)
      · exact kcmp_gt.2 (by simp; omega)
      · exact kcmp_gt.2 (by simp; omega)
    | number s n j =>
      obtain ⟨g4, g5, g6⟩ := Rnd.sgl_read (x := y) k
      exact Rnd.fin_order Rnd.ok_single ⟨m, e, h, g2, rfl⟩ ⟨n, j, k, g5, rfl⟩
/-- Whether it is a number. -/
def isN (x : Nat) : Bool := feq .f32 x x
theorem feq_nan {x : Nat} (h : (FloatKind.f32.decode x).isNaN = true) : feq .f32 x x = false := by
  unfold feq
  show ((FloatKind.f32.decode x).order (FloatKind.f32.decode x) == some .eq) = false
  rw [order_nan_l h]; rfl
theorem isN_iff {x : Nat} : isN x = true ↔ (FloatKind.f32.decode x).isNaN = false := by
  constructor
  · intro h
    cases hn : (FloatKind.f32.decode x).isNaN with
    | false => rfl
    | true => unfold isN at h; rw [feq_nan hn] at h; cases h
  · intro h
    unfold isN feq
    rw [order_key h h, kcmp_eq.2 rfl]; rfl
theorem flt_iff {x y : Nat} : flt .f32 x y = true ↔ isN x = true ∧ isN y = true ∧ key x < key y := by
  rw [isN_iff, isN_iff]
  cases hx : (FloatKind.f32.decode x).isNaN with
  | true =>
    have : flt .f32 x y = false := by
      unfold flt
      show ((FloatKind.f32.decode x).order (FloatKind.f32.decode y) == some .lt) = false
      rw [order_nan_l hx]; rfl
    simp [this]
  | false =>
    cases hy : (FloatKind.f32.decode y).isNaN with
    | true =>
      have : flt .f32 x y = false := by
        unfold flt
        show ((FloatKind.f32.decode x).order (FloatKind.f32.decode y) == some .lt) = false
        rw [order_nan_r hy]; rfl
      simp [this]
    | false =>
      unfold flt
      rw [order_key hx hy]
      simp [kcmp_lt]
theorem feq_iff {x y : Nat} : feq .f32 x y = true ↔ isN x = true ∧ isN y = true ∧ key x = key y := by
  rw [isN_iff, isN_iff]
  cases hx : (FloatKind.f32.decode x).isNaN with
  | true =>
    have : feq .f32 x y = false := by
      unfold feq
      show ((FloatKind.f32.decode x).order (FloatKind.f32.decode y) == some .eq) = false
      rw [order_nan_l hx]; rfl
    simp [this]
  | false =>
    cases hy : (FloatKind.f32.decode y).isNaN with
    | true =>
      have : feq .f32 x y = false := by
        unfold feq
        show ((FloatKind.f32.decode x).order (FloatKind.f32.decode y) == some .eq) = false
        rw [order_nan_r hy]; rfl
      simp [this]
    | false =>
      unfold feq
      rw [order_key hx hy]
      simp [kcmp_eq]
end Go.Proofs.Ytlimabbeaimdgaa
