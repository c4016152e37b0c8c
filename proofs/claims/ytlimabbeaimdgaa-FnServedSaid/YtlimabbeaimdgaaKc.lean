/- A part of the proofs: Same, Ten, SameL, SameT, Lay, SameU, Lays, Fcell, Lay2, Mod, Mod2, Exa. -/
import Derived.Test.YtlimabbeaimdgaaKb
import Derived.Test.YtlimabbeaimdgaaKa
import Derived.IntWalk
/- impl.SameNumber and spec.l01Same say the same: whether two numbers have the same bits (all NaNs are one). -/
namespace Go.Proofs.Ytlimabbeaimdgaa
set_option linter.unusedSimpArgs false
set_option linter.unusedVariables false
open Go.RowKit

theorem single_sw : (Ieee.single).signWeight = 2147483648 := by decide
theorem single_ir : (Ieee.single).infRung = 2139095040 := by decide
theorem single_bi : (Ieee.single).binade = 8388608 := by decide
theorem single_lp : (Ieee.single).leastPlace = -149 := by decide
/-- What a word of 32 bits that is no NaN stands for. -/
theorem read_cases {a : Nat} (ha : a < 4294967296) (na : (FloatKind.f32.decode a).isNaN = false) :
    (∃ m e, Ieee.single.read a = .number (decide (2147483648 ≤ a)) m e ∧ (a % 2147483648 < 8388608 ∧ m = a % 2147483648 ∧ e = -149 ∨ 8388608 ≤ a % 2147483648 ∧ m = 8388608 + a % 2147483648 % 8388608 ∧ e = -149 + ((a % 2147483648 / 8388608 - 1 : Nat) : Int))) ∨
    (Ieee.single.read a = .infinity (decide (2147483648 ≤ a)) ∧ a % 2147483648 = 2139095040) := by
  have hneg : (a / 2147483648 % 2 == 1) = decide (2147483648 ≤ a) := by
    rw [Bool.eq_iff_iff]; simp only [beq_iff_eq, decide_eq_true_eq]; omega
  have na' : (Ieee.single.read a).isNaN = false := na
  unfold Ieee.Format.read at na' ⊢
  simp only [single_sw, single_ir, single_bi, single_lp, hneg] at na' ⊢
  split
  · exact .inl ⟨_, _, rfl, .inl ⟨by assumption, rfl, rfl⟩⟩
  · rename_i h1
    split
    · exact .inl ⟨_, _, rfl, .inr ⟨by omega, rfl, rfl⟩⟩
    · rename_i h2
      rw [if_neg h1, if_neg h2] at na'
      split
      · rename_i h3; exact .inr ⟨rfl, h3⟩
      · rename_i h3; rw [if_neg h3] at na'; simp [Ieee.Datum.isNaN] at na'
theorem shift_eq {m n : Nat} {e f : Int} (h : m <<< (e - min e f).toNat = n <<< (f - min e f).toNat) (hef : e ≤ f) : m = n * 2 ^ (f - e).toNat := by
  have h1 : min e f = e := by omega
  rw [h1, Nat.shiftLeft_eq, Nat.shiftLeft_eq] at h
  simpa using h
theorem rung_eq {r q m n : Nat} {e f : Int} (hr : r < 8388608 ∧ m = r ∧ e = -149 ∨ 8388608 ≤ r ∧ m = 8388608 + r % 8388608 ∧ e = -149 + ((r / 8388608 - 1 : Nat) : Int))
    (hq : q < 8388608 ∧ n = q ∧ f = -149 ∨ 8388608 ≤ q ∧ n = 8388608 + q % 8388608 ∧ f = -149 + ((q / 8388608 - 1 : Nat) : Int)) (h : m = n * 2 ^ (f - e).toNat) (hef : e ≤ f) : r = q := by
  obtain ⟨k, hk⟩ : ∃ k, k = (f - e).toNat := ⟨_, rfl⟩
  rw [← hk] at h
  cases k with
  | zero => rw [Nat.pow_zero, Nat.mul_one] at h; omega
  | succ k =>
    exfalso
    have h2 : n * 2 ^ (k + 1) = n * 2 ^ k * 2 := by rw [Nat.pow_succ, Nat.mul_assoc]
    have h3 : n ≤ n * 2 ^ k := Nat.le_mul_of_pos_right _ (Nat.two_pow_pos k)
    rw [h2] at h
    generalize n * 2 ^ k = z at *
    omega
theorem mag_eq {r q m n : Nat} {e f : Int} (hr : r < 8388608 ∧ m = r ∧ e = -149 ∨ 8388608 ≤ r ∧ m = 8388608 + r % 8388608 ∧ e = -149 + ((r / 8388608 - 1 : Nat) : Int))
    (hq : q < 8388608 ∧ n = q ∧ f = -149 ∨ 8388608 ≤ q ∧ n = 8388608 + q % 8388608 ∧ f = -149 + ((q / 8388608 - 1 : Nat) : Int)) (h : m <<< (e - min e f).toNat = n <<< (f - min e f).toNat) : r = q := by
  rcases Int.le_total e f with hef | hef
  · exact rung_eq hr hq (shift_eq h hef) hef
  · exact (rung_eq hq hr (shift_eq (by rw [Int.min_comm] at h; exact h.symm) hef) hef).symm
/-- Equal by order and of one sign: the same word. -/
theorem order_bits {a b : Nat} (ha : a < 4294967296) (hb : b < 4294967296) (na : (FloatKind.f32.decode a).isNaN = false) (nb : (FloatKind.f32.decode b).isNaN = false)
    (h : FloatKind.f32.format.order a b = some .eq) (hs : decide (2147483648 ≤ a) = decide (2147483648 ≤ b)) : a = b := by
  have h' : (Ieee.single.read a).order (Ieee.single.read b) = some .eq := h
  have hss : 2147483648 ≤ a ↔ 2147483648 ≤ b := by simpa using hs
  suffices a % 2147483648 = b % 2147483648 by omega
  rcases read_cases ha na with ⟨m, e, h1, h2⟩ | ⟨h1, h2⟩
  · rcases read_cases hb nb with ⟨n, f, h3, h4⟩ | ⟨h3, h4⟩
    · rw [h1, h3] at h'
      simp only [Ieee.Datum.order, Option.some.injEq] at h'
      have h5 : Ieee.signed (decide (2147483648 ≤ a)) m (e - min e f).toNat = Ieee.signed (decide (2147483648 ≤ b)) n (f - min e f).toNat := by
        unfold compare at h'
        simp only [instOrdInt, compareOfLessAndEq] at h'
        split at h'
        · cases h'
        · split at h'
          · assumption
          · cases h'
      rw [hs] at h5
      refine mag_eq h2 h4 ?_
      unfold Ieee.signed at h5
      split at h5 <;> omega
    · rw [h1, h3] at h'; simp only [Ieee.Datum.order, Option.some.injEq] at h'; split at h' <;> cases h'
  · rcases read_cases hb nb with ⟨n, f, h3, h4⟩ | ⟨h3, h4⟩
    · rw [h1, h3] at h'; simp only [Ieee.Datum.order, Option.some.injEq] at h'; split at h' <;> cases h'
    · rw [h2, h4]
theorem word_sign (f : Ieee.Format) (neg : Bool) {r : Nat} (hr : r ≤ f.infRung) : decide (f.signWeight ≤ f.word neg r) = neg ∧ f.word neg r < 2 * f.signWeight := by
  have hlt : r < f.signWeight := Nat.lt_of_le_of_lt hr f.infRung_lt
  unfold Ieee.Format.word
  cases neg
  · simp; omega
  · simp; omega
theorem write_sign (f : Ieee.Format) {d : Ieee.Datum} (hd : d.isNaN = false) : decide (f.signWeight ≤ f.write d) = d.neg ∧ f.write d < 2 * f.signWeight := by
  cases d with
  | nan s t => simp [Ieee.Datum.isNaN] at hd
  | infinity s => exact word_sign f s (Nat.le_refl _)
  | number s m e =>
    show decide (f.signWeight ≤ f.nearest s m e) = s ∧ f.nearest s m e < 2 * f.signWeight
    unfold Ieee.Format.nearest
    dsimp only
    split
    · exact word_sign f s (Nat.zero_le _)
    · exact word_sign f s (Nat.min_le_right _ _)
theorem widen_some {a : Nat} (na : (FloatKind.f32.decode a).isNaN = false) : floatToFloatBits .f32 a .f64 = some (fconv .f32 a .f64) := by
  have ho := fover_widen a
  unfold fover at ho
  rw [na] at ho
  simp only [Bool.not_false, Bool.true_and] at ho
  unfold fconv
  cases h : floatToFloatBits .f32 a .f64 with
  | none => rw [h] at ho; cases ho
  | some r => rfl
/-- The sign of a number made a float64. -/
theorem widen_sign {a : Nat} (ha : a < 4294967296) (na : (FloatKind.f32.decode a).isNaN = false) : decide (9223372036854775808 ≤ fconv .f32 a .f64) = decide (2147483648 ≤ a) ∧ fconv .f32 a .f64 < 18446744073709551616 := by
  have ho := fover_widen a
  have hsw : (Ieee.double).signWeight = 9223372036854775808 := by decide
  have key : fconv .f32 a .f64 = Ieee.double.write (Ieee.single.read a) := by
    have hne : ¬ (FloatKind.f32 = FloatKind.f64) := by decide
    unfold fover at ho
    rw [na] at ho
    simp only [Bool.not_false, Bool.true_and] at ho
    unfold fconv
    cases h : floatToFloatBits .f32 a .f64 with
    | none => rw [h] at ho; cases ho
    | some r =>
      simp only [floatToFloatBits, hne, if_false] at h
      have na' := na
      split at h
      · cases h
      · rename_i hd; cases h; show _ = Ieee.double.write (FloatKind.f32.decode a); rw [hd]; rfl
      · rename_i hd
        split at h
        · cases h
        · cases h; show _ = Ieee.double.write (FloatKind.f32.decode a); rw [hd]; rfl
  have na' : (Ieee.single.read a).isNaN = false := na
  have hw := write_sign Ieee.double na'
  rw [hsw, ← key] at hw
  refine ⟨?_, by omega⟩
  rw [hw.1]
  rcases read_cases ha na with ⟨m, e, h1, h2⟩ | ⟨h1, h2⟩ <;> rw [h1] <;> rfl
theorem wrap64_neg {r : Nat} (h : r < 18446744073709551616) : decide (wrap64 r < 0) = decide (9223372036854775808 ≤ r) := by
  unfold wrap64
  rw [Bool.eq_iff_iff]; simp only [decide_eq_true_eq]; omega
theorem wrap64_eq {x y : Nat} (hx : x < 4294967296) (hy : y < 4294967296) : wrap64 (x : Int) = wrap64 (y : Int) ↔ x = y := by
  unfold wrap64; omega

theorem run_f64bits (b : Nat) (w : World) : (callFunc 144 #[.float .f64 b]).run Try.prog w = .ok (.value (.int .u64 b)) w :=
  run_extern (e := Extern.MathFloatBits.float64bits) Try.func144 (by kernel_rfl) (by kernel_rfl) (by kernel_rfl) (by kernel_rfl) rfl
set_option maxRecDepth 100000 in
set_option maxHeartbeats 1000000 in
theorem Signbit_any (r : Nat) (w : World) (hr : r < 18446744073709551616) : Calls Try.prog 88 #[.float .f64 r] w fun e w' => e = .returned (.bool (decide (9223372036854775808 ≤ r))) ∧ w' = w := by
  have hx := run_f64bits r
  have hw := wrap64_neg hr
  go_enter Try.func88, Try.ntmps88
  go_wp2
  go_ret
  exact ⟨by first | rw [← hw]; rfl | skip, rfl⟩
set_option maxRecDepth 100000 in
set_option maxHeartbeats 1000000 in
theorem SameNumber_any (a b : Nat) (w : World) (ha : cn .f32 a < 4294967296) (hb : cn .f32 b < 4294967296) : Calls Try.prog 32 #[.float .f32 a, .float .f32 b] w fun e w' => e = .returned (.bool (decide (cn .f32 a = cn .f32 b))) ∧ w' = w := by
  by_cases hna : (FloatKind.f32.decode a).isNaN = true
  · have h1 : (FloatKind.f32.format.order a a != some .eq) = true := by rw [order_nan hna]; rfl
    by_cases hnb : (FloatKind.f32.decode b).isNaN = true
    · have h2 : (FloatKind.f32.format.order b b != some .eq) = true := by rw [order_nan hnb]; rfl
      have h3 : decide (cn .f32 a = cn .f32 b) = true := by rw [cn_nan hna, cn_nan hnb]; simp
      rw [h3]
      clear h3 ha hb hna hnb
      go_enter Try.func32, Try.ntmps32
      go_wp2
      go_ret
      exact ⟨rfl, rfl⟩
    · have hnb' : (FloatKind.f32.decode b).isNaN = false := by simpa using hnb
      have h2 : (FloatKind.f32.format.order b b != some .eq) = false := by rw [order_self hnb']; rfl
      have h3 : decide (cn .f32 a = cn .f32 b) = false := by
        refine decide_eq_false fun h => ?_
        have := isNaN_of_cn h; rw [hna, hnb'] at this; cases this
      rw [h3]
      clear h3 ha hb hna hnb hnb'
      go_enter Try.func32, Try.ntmps32
      go_wp2
      go_ret
      exact ⟨rfl, rfl⟩
  · have hna' : (FloatKind.f32.decode a).isNaN = false := by simpa using hna
    have h1 : (FloatKind.f32.format.order a a != some .eq) = false := by rw [order_self hna']; rfl
    by_cases hnb : (FloatKind.f32.decode b).isNaN = true
    · have h2 : (FloatKind.f32.format.order b b != some .eq) = true := by rw [order_nan hnb]; rfl
      have h3 : decide (cn .f32 a = cn .f32 b) = false := by
        refine decide_eq_false fun h => ?_
        have := isNaN_of_cn h; rw [hna', hnb] at this; cases this
      rw [h3]
      clear h3 ha hb hna hnb hna'
      go_enter Try.func32, Try.ntmps32
      go_wp2
      go_ret
      exact ⟨rfl, rfl⟩
    · have hnb' : (FloatKind.f32.decode b).isNaN = false := by simpa using hnb
      have h2 : (FloatKind.f32.format.order b b != some .eq) = false := by rw [order_self hnb']; rfl
      rw [cn_not hna'] at ha ⊢
      rw [cn_not hnb'] at hb ⊢
      have sa := widen_sign ha hna'
      have sb := widen_sign hb hnb'
      have ca := widen_some hna'
      have cb := widen_some hnb'
      by_cases ho : FloatKind.f32.format.order a b = some .eq
      · have h4 : (FloatKind.f32.format.order a b == some .eq) = true := by rw [ho]; rfl
        have h5 : decide (a = b) = (decide (2147483648 ≤ a) == decide (2147483648 ≤ b)) := by
          by_cases hs : decide (2147483648 ≤ a) = decide (2147483648 ≤ b)
          · have := order_bits ha hb hna' hnb' ho hs
            subst this; simp
          · rw [(beq_eq_false_iff_ne).2 hs]
            refine decide_eq_false fun h => hs ?_
            rw [h]
        have va := fun w => run_convert_float_float w 49 139 .f32 .f64 a _ (by rw [underlying_f32]; rfl) underlying_f64 ca
        have vb := fun w => run_convert_float_float w 49 139 .f32 .f64 b _ (by rw [underlying_f32]; rfl) underlying_f64 cb
        have Ha := Signbit_any (fconv .f32 a .f64)
        have Hb := Signbit_any (fconv .f32 b .f64)
        rw [h5, ← sa.1, ← sb.1]
        generalize fconv .f32 a .f64 = x at *
        generalize fconv .f32 b .f64 = y at *
        have Ha := fun w => Ha w sa.2
        have Hb := fun w => Hb w sb.2
        clear h5 ha hb hna hnb hna' hnb' sa sb ho
        generalize decide (9223372036854775808 ≤ x) = p at *
        generalize decide (9223372036854775808 ≤ y) = q at *
        go_enter Try.func32, Try.ntmps32
        go_wp2_with fail
        refine (Ha _).mono ?_
        rintro e w1 ⟨rfl, rfl⟩
        go_wp2_with fail
        refine (Hb _).mono ?_
        rintro e w1 ⟨rfl, rfl⟩
        go_wp2
        go_ret
        exact ⟨rfl, rfl⟩
      · have h4 : (FloatKind.f32.format.order a b == some .eq) = false := by simpa using ho
        have h5 : decide (a = b) = false := by
          refine decide_eq_false fun h => ho ?_
          subst h; exact order_self hna'
        rw [h5]
        clear h5 ha hb hna hnb hna' hnb' sa sb ho
        go_enter Try.func32, Try.ntmps32
        go_wp2
        go_ret
        exact ⟨rfl, rfl⟩
set_option maxRecDepth 100000 in
set_option maxHeartbeats 1000000 in
theorem l01Same_any (a b : Nat) (w : World) (ha : cn .f32 a < 4294967296) (hb : cn .f32 b < 4294967296) : Calls Try.prog 155 #[.float .f32 a, .float .f32 b] w fun e w' => e = .returned (.bool (decide (cn .f32 a = cn .f32 b))) ∧ w' = w := by
  have h : decide (cn .f32 a = cn .f32 b) = (bitsOf (cn .f32 a) == bitsOf (cn .f32 b)) := by
    rw [Bool.eq_iff_iff]; simp only [decide_eq_true_eq, beq_iff_eq]; exact (wrap64_eq ha hb).symm
  rw [h]
  have Ha := l01Bits_any a
  have Hb := l01Bits_any b
  generalize bitsOf (cn .f32 a) = x at *
  generalize bitsOf (cn .f32 b) = y at *
  clear ha hb h
  go_enter Try.func155, Try.ntmps155
  go_wp2_with fail
  refine (Ha _).mono ?_
  rintro e w1 ⟨rfl, rfl⟩
  go_wp2_with fail
  refine (Hb _).mono ?_
  rintro e w1 ⟨rfl, rfl⟩
  go_wp2
  go_ret
  exact ⟨rfl, rfl⟩
end Go.Proofs.Ytlimabbeaimdgaa
/- Tensors: which are valid. -/
namespace Go.Proofs.Ytlimabbeaimdgaa
set_option linter.unusedSimpArgs false
set_option linter.unusedVariables false
open Go.RowKit

def RetB (w : World) (b : Bool) (e : Ending) (w' : World) : Prop := e = .returned (.bool b) ∧ Ext w w'
/-- Which tensors are valid. -/
def tenB (r c : Int) (n : Nat) : Bool := inB r 1 16 && inB c 1 16 && decide ((n : Int) = r * c)

theorem wrap_in (x : Int) (h0 : -9223372036854775808 ≤ x) (h1 : x ≤ 9223372036854775807) : IntKind.i64.wrap x = x := IntWalk.i64_in _ (by omega)
theorem calls_same {P : Program} {f : Nat} {xs : Array Value} {w : World} {v : Value} (h : Calls P f xs w fun e w' => e = .returned v ∧ w = w') : Calls P f xs w fun e w3 => ∃ u, e = .returned u ∧ Ext w w3 ∧ u = v :=
  h.mono fun e w3 h => ⟨v, h.1, h.2 ▸ Ext.refl _, rfl⟩
theorem calls_retB {P : Program} {f : Nat} {xs : Array Value} {w : World} {b : Bool} (h : Calls P f xs w (RetB w b)) : Calls P f xs w fun e w3 => ∃ u, e = .returned u ∧ Ext w w3 ∧ u = .bool b :=
  h.mono fun e w3 h => ⟨_, h.1, h.2, rfl⟩

set_option maxRecDepth 100000 in
set_option maxHeartbeats 1000000 in
theorem ValidTensor_any (r c : Int) (p : Option Addr) (n cp : Nat) (w : World) (hn : n ≤ maxLen) :
    Calls Try.prog 99 #[.agg #[.int .i64 r, .int .i64 c, .slice p n cp]] w (RetB w (tenB r c n)) := by
  unfold maxLen at hn
  cases h1 : inB r 1 16
  · have hb : tenB r c n = false := by simp [tenB, h1]
    have H1 := hid h1
    rw [hb]
    clear h1 hb
    go_enter Try.func99, Try.ntmps99
    go_wp2_with fail
    refine (isSide_any _ _).mono ?_
    rintro e w1 ⟨rfl, rfl⟩
    rw [H1.out]
    go_wp2
    go_ret
    exact ⟨rfl, Ext.alloc _ _⟩
  · cases h2 : inB c 1 16
    · have hb : tenB r c n = false := by simp [tenB, h2]
      have H1 := hid h1
      have H2 := hid h2
      rw [hb]
      clear h1 h2 hb
      go_enter Try.func99, Try.ntmps99
      go_wp2_with fail
      refine (isSide_any _ _).mono ?_
      rintro e w1 ⟨rfl, rfl⟩
      rw [H1.out]
      go_wp2_with fail
      refine (isSide_any _ _).mono ?_
      rintro e w1 ⟨rfl, rfl⟩
      rw [H2.out]
      go_wp2
      go_ret
      exact ⟨rfl, Ext.alloc _ _⟩
    · have hb : tenB r c n = decide ((n : Int) = r * c) := by simp [tenB, h1, h2]
      have H1 := hid h1
      have H2 := hid h2
      rw [inB_true] at h1 h2
      have hm : r * c ≤ 256 := by have := Int.mul_le_mul h1.2 h2.2 (by omega) (by decide); omega
      have hm0 : 0 ≤ r * c := Int.mul_nonneg (by omega) (by omega)
      rw [hb]
      clear hb
      go_enter Try.func99, Try.ntmps99
      go_wp2_with fail
      refine (isSide_any _ _).mono ?_
      rintro e w1 ⟨rfl, rfl⟩
      rw [H1.out]
      go_wp2_with fail
      refine (isSide_any _ _).mono ?_
      rintro e w1 ⟨rfl, rfl⟩
      rw [H2.out]
      go_wp2
      go_ret
      exact ⟨ret_bool (a := ((n : Int) == r * c)) rfl, Ext.alloc _ _⟩
end Go.Proofs.Ytlimabbeaimdgaa
/- Lists of numbers that are the same: spec.l01SameAll, slices.EqualFunc, impl.sameLists. -/
namespace Go.Proofs.Ytlimabbeaimdgaa
set_option linter.unusedSimpArgs false
set_option linter.unusedVariables false
open Go.RowKit

theorem eq_of_getD {xs ys : List Nat} (hl : xs.length = ys.length) (h : ∀ j, j < xs.length → xs.getD j 0 = ys.getD j 0) : xs = ys := by
  refine List.ext_getElem hl fun i h1 h2 => ?_
  have := h i h1
  simpa [h1, h2] using this
theorem getD_lt {xs : List Nat} {B : Nat} (hB : 0 < B) (h : ∀ x ∈ xs, x < B) (j : Nat) : xs.getD j 0 < B := by
  by_cases hj : j < xs.length
  · have : xs.getD j 0 = xs[j] := by simp [hj]
    rw [this]; exact h _ (by simp)
  · have : xs.getD j 0 = 0 := by simp; rw [List.getElem?_eq_none (by omega)]; rfl
    rw [this]; exact hB
/-- Numbers have 32 bits. -/
def In32 (xs : List Nat) : Prop := ∀ x ∈ xs, x < 4294967296

/-- What is asked of the function of two elements. -/
def PredOk2 (fn : Nat) (us vs : List Value) (q : Nat → Bool) (w : World) : Prop :=
  ∀ (i : Nat) (u v : Value) (W : World), us[i]? = some u → vs[i]? = some v → Ext w W → Calls Try.prog fn #[u, v] W fun e w' => e = .returned (.bool (q i)) ∧ Ext W w'
set_option maxRecDepth 100000 in
set_option maxHeartbeats 1000000 in
theorem equalF32_any (fn : Nat) (eg : ∀ args w, (callFunc fn args).run Try.prog w = .ok (.enter fn args) w) (p q : Option Addr) (n m c d : Nat) (us vs : List Value) (f : Nat → Bool) (w : World) (hx : us.length = n) (hy : vs.length = m) (hn : n ≤ maxLen) (hp : Cs w p us) (hq : Cs w q vs) (hf : PredOk2 fn us vs f w) :
    Calls Try.prog 213 #[.slice p n c, .slice q m d, .func (.func fn) #[] #[]] w fun e w' => e = .returned (.bool (decide (n = m) && !anyTo (fun i => !f i) n)) ∧ Ext w w' := by
  unfold maxLen at hn
  by_cases hnm : n = m
  · subst hnm
    have Hx := hid hx
    have Hy := hid hy
    have Hf := hid hf
    clear hx hy hf
    go_enter Try.func213, Try.ntmps213
    go_wp2
    go_loopw [17] (fun iv wr => ∃ i : Nat, i ≤ n ∧ iv = .int .i64 i ∧ Hid (∀ j, j < i → f j = true) ∧ Ext w wr) (fun iv _ => n - (intOf iv).toNat)
    case atStart => exact ⟨0, by omega, rfl, hid (fun j hj => absurd hj (Nat.not_lt_zero j)), Ext.refl w⟩
    case round =>
      obtain ⟨i, hi, rfl, Hall, he⟩ := hrel
      by_cases hlt : i < n
      · have hp' := hp.ext he
        have hq' := hq.ext he
        have E1 : Hid (us[i]? = some (us[i]'(by rw [Hx.out]; exact hlt))) := hid (by simp)
        have E2 : Hid (vs[i]? = some (vs[i]'(by rw [Hy.out]; exact hlt))) := hid (by simp)
        have hcall := Hf.out i _ _ wr E1.out E2.out he
        generalize us[i]'(by rw [Hx.out]; exact hlt) = u1 at *
        generalize vs[i]'(by rw [Hy.out]; exact hlt) = u2 at *
        obtain ⟨b, hb⟩ : ∃ b, f i = b := ⟨_, rfl⟩
        rw [hb] at hcall
        have Hb := hid hb
        clear hb
        cases b with
        | true =>
          go_wp2_with (first | (go_at_fn fn; refine hcall.mono ?_; rintro e w1 ⟨rfl, e1⟩) | (refine wl_idxload rfl rfl rfl rfl (fun _ => rfl) rfl rfl hp' Hx.out (by omega) (by omega) ?_; intro u hu'; rw [Int.toNat_natCast, E1.out] at hu'; cases hu') | (refine wl_idxload rfl rfl rfl rfl (fun _ => rfl) rfl rfl hq' Hy.out (by omega) (by omega) ?_; intro u hu'; rw [Int.toNat_natCast, E2.out] at hu'; cases hu'))
          go_roundw
          case rel =>
            refine ⟨i + 1, by omega, by go_num, hid fun j hj => ?_, he.trans e1⟩
            by_cases hji : j = i
            · subst hji; exact Hb.out
            · exact Hall.out j (by omega)
          case measure => simp [intOf]; omega
        | false =>
          go_wp2_with (first | (go_at_fn fn; refine hcall.mono ?_; rintro e w1 ⟨rfl, e1⟩) | (refine wl_idxload rfl rfl rfl rfl (fun _ => rfl) rfl rfl hp' Hx.out (by omega) (by omega) ?_; intro u hu'; rw [Int.toNat_natCast, E1.out] at hu'; cases hu') | (refine wl_idxload rfl rfl rfl rfl (fun _ => rfl) rfl rfl hq' Hy.out (by omega) (by omega) ?_; intro u hu'; rw [Int.toNat_natCast, E2.out] at hu'; cases hu'))
          go_ret
          refine ⟨?_, he.trans e1⟩
          have : anyTo (fun i => !f i) n = true := anyTo_true.2 ⟨i, hlt, by rw [Hb.out]; rfl⟩
          rw [this]; simp
      · obtain rfl : i = n := by omega
        go_wp2
        go_ret
        refine ⟨?_, he⟩
        have : anyTo (fun i => !f i) i = false := anyTo_false fun j hj => by rw [Hall.out j hj]; rfl
        rw [this]; simp
  · have h : decide (n = m) = false := decide_eq_false hnm
    rw [h, Bool.false_and]
    clear h hx hy hf hp hq eg
    go_enter Try.func213, Try.ntmps213
    go_wp2
    go_ret
    exact ⟨rfl, Ext.refl w⟩
set_option maxRecDepth 100000 in
set_option maxHeartbeats 1000000 in
theorem sameLists_any (p q : Option Addr) (n m c d : Nat) (us vs : List Value) (xs ys : List Nat) (w : World) (hx : xs.length = n) (hy : ys.length = m) (hn : n ≤ maxLen) (hp : Cs w p us) (hq : Cs w q vs) (hu : F32s us xs) (hv : F32s vs ys) (bx : In32 xs) (bY : In32 ys) :
    Calls Try.prog 197 #[.slice p n c, .slice q m d] w fun e w' => e = .returned (.bool (decide (xs = ys))) ∧ Ext w w' := by
  have hcall := equalF32_any 32 (by intro args w; kernel_rfl) p q n m c d us vs (fun i => decide (xs.getD i 0 = ys.getD i 0)) w (by rw [hu.1, hx]) (by rw [hv.1, hy]) hn hp hq (by
    intro i u v W h1 h2 _
    have l1 : i < xs.length := by rw [← hu.1]; exact (List.getElem?_eq_some_iff.1 h1).1
    have l2 : i < ys.length := by rw [← hv.1]; exact (List.getElem?_eq_some_iff.1 h2).1
    obtain ⟨r1, e1, c1⟩ := hu.get l1
    obtain ⟨r2, e2, c2⟩ := hv.get l2
    rw [h1] at e1; rw [h2] at e2
    cases e1; cases e2
    refine (SameNumber_any r1 r2 W (by rw [c1]; exact getD_lt (by decide) bx i) (by rw [c2]; exact getD_lt (by decide) bY i)).mono ?_
    rintro e w1 ⟨rfl, rfl⟩
    exact ⟨by rw [c1, c2], Ext.refl _⟩)
  have hb : (decide (n = m) && !anyTo (fun i => !decide (xs.getD i 0 = ys.getD i 0)) n) = decide (xs = ys) := by
    rw [Bool.eq_iff_iff]
    simp only [Bool.and_eq_true, decide_eq_true_eq, Bool.not_eq_true']
    constructor
    · rintro ⟨h1, h2⟩
      refine eq_of_getD (by omega) fun j hj => ?_
      by_cases hc : xs.getD j 0 = ys.getD j 0
      · exact hc
      · rw [Bool.eq_false_iff] at h2
        exact absurd (anyTo_true.2 ⟨j, by omega, by simpa using hc⟩) h2
    · rintro rfl
      exact ⟨by omega, anyTo_false fun j hj => by simp⟩
  rw [hb] at hcall
  clear hb
  generalize decide (xs = ys) = b at *
  clear hx hy hp hq hu hv bx bY
  go_enter Try.func197, Try.ntmps197
  go_wp2_with fail
  refine hcall.mono ?_
  rintro e w1 ⟨rfl, e1⟩
  go_wp2
  go_ret
  exact ⟨rfl, e1⟩
end Go.Proofs.Ytlimabbeaimdgaa
/- Layers, models and states that are the same: the program's part. -/
namespace Go.Proofs.Ytlimabbeaimdgaa
set_option linter.unusedSimpArgs false
set_option linter.unusedVariables false
open Go.RowKit

/-- Equal data, by shape. -/
def listB {A : Type} (f : A → A → Bool) : List A → List A → Bool
  | [], [] => true
  | x :: xs, y :: ys => f x y && listB f xs ys
  | _, _ => false
def eqT : (s : Sh) → s.T → s.T → Bool
  | .int, a, b => decide ((a : Int) = b)
  | .flt, a, b => decide ((a : Nat) = b)
  | .bool, a, b => (a : Bool) == b
  | .str, a, b => decide ((a : ByteArray) = b)
  | .un, _, _ => true
  | .sl e, a, b => listB (eqT e) a b
  | .pr s t, a, b => eqT s a.1 b.1 && eqT t a.2 b.2
theorem listB_iff {A : Type} {f : A → A → Bool} (h : ∀ x y, f x y = true ↔ x = y) : ∀ {xs ys : List A}, listB f xs ys = true ↔ xs = ys
  | [], [] => by simp [listB]
  | [], y :: ys => by simp [listB]
  | x :: xs, [] => by simp [listB]
  | x :: xs, y :: ys => by rw [listB, Bool.and_eq_true, h, listB_iff h, List.cons.injEq]
theorem eqT_iff : ∀ (s : Sh) (a b : s.T), eqT s a b = true ↔ a = b
  | .int, a, b => by unfold eqT; exact decide_eq_true_iff
  | .flt, a, b => by unfold eqT; exact decide_eq_true_iff
  | .bool, a, b => by unfold eqT; exact beq_iff_eq
  | .str, a, b => by unfold eqT; exact decide_eq_true_iff
  | .un, a, b => by unfold eqT; exact ⟨fun _ => rfl, fun _ => rfl⟩
  | .sl e, a, b => by unfold eqT; exact listB_iff (eqT_iff e)
  | .pr s t, (a1, a2), (b1, b2) => by unfold eqT; rw [Bool.and_eq_true, eqT_iff s, eqT_iff t]; exact (Prod.mk.injEq _ _ _ _).symm.to_iff
theorem eqT_flts (xs ys : List Nat) : eqT (.sl .flt) xs ys = decide (xs = ys) := by
  rw [Bool.eq_iff_iff, eqT_iff]; exact decide_eq_true_iff.symm
/-- Elements at one place. -/
def atB {A : Type} (f : A → A → Bool) (l m : List A) (i : Nat) : Bool :=
  match l[i]?, m[i]? with
  | some x, some y => f x y
  | _, _ => true
theorem atB_in {A : Type} {f : A → A → Bool} {l m : List A} {i : Nat} {x y : A} (hx : l[i]? = some x) (hy : m[i]? = some y) : atB f l m i = f x y := by unfold atB; rw [hx, hy]
theorem eqT_list (e : Sh) (l m : List e.T) : (decide (l.length = m.length) && !anyTo (fun i => !atB (eqT e) l m i) l.length) = eqT (.sl e) l m := by
  rw [Bool.eq_iff_iff, eqT_iff]
  simp only [Bool.and_eq_true, decide_eq_true_eq, Bool.not_eq_true']
  constructor
  · rintro ⟨h1, h2⟩
    refine List.ext_getElem h1 fun i a b => ?_
    have h3 : atB (eqT e) l m i = true := by
      cases h : atB (eqT e) l m i
      · rw [Bool.eq_false_iff] at h2
        exact absurd (anyTo_true.2 ⟨i, a, by rw [h]; rfl⟩) h2
      · rfl
    rw [atB_in (x := l[i]) (y := m[i]) (by simp) (by simp)] at h3
    exact (eqT_iff e _ _).1 h3
  · rintro rfl
    refine ⟨rfl, anyTo_false fun j hj => ?_⟩
    rw [atB_in (x := l[j]) (y := l[j]) (by simp) (by simp)]
    rw [(eqT_iff e _ _).2 rfl]; rfl

set_option maxRecDepth 100000 in
set_option maxHeartbeats 1000000 in
theorem equalLay_any (fn : Nat) (eg : ∀ args w, (callFunc fn args).run Try.prog w = .ok (.enter fn args) w) (p q : Option Addr) (n m c d : Nat) (css dss : List (List Value)) (f : Nat → Bool) (w : World) (hn : n ≤ maxLen)
    (a2 : Cs w p css.flatten) (ao : ∀ c ∈ css, ∀ u ∈ c, u.oneCell' = true) (a6 : ∀ c ∈ css, c.length = shLayer.sz) (a7 : css.length = n)
    (b2 : Cs w q dss.flatten) (bo : ∀ c ∈ dss, ∀ u ∈ c, u.oneCell' = true) (b6 : ∀ c ∈ dss, c.length = shLayer.sz) (b7 : dss.length = m)
    (hf : ∀ i ci di W, css[i]? = some ci → dss[i]? = some di → Ext w W → Calls Try.prog fn #[ofCs shLayer ci, ofCs shLayer di] W (RetB W (f i))) :
    Calls Try.prog 174 #[.slice p n c, .slice q m d, .func (.func fn) #[] #[]] w (RetB w (decide (n = m) && !anyTo (fun i => !f i) n)) := by
  unfold maxLen at hn
  by_cases hnm : n = m
  · subst hnm
    have Hf := hid hf
    have Hn := hid hn
    have Ao := hid ao
    have Bo := hid bo
    have A6 := hid a6
    have B6 := hid b6
    have A7 := hid a7
    have B7 := hid b7
    clear hf ao bo a6 b6 a7 b7
    go_enter Try.func174, Try.ntmps174
    go_wp2
    go_loopw [17] (fun iv wr => ∃ i : Nat, i ≤ n ∧ iv = .int .i64 i ∧ Hid (∀ j, j < i → f j = true) ∧ Ext w wr) (fun iv _ => n - (intOf iv).toNat)
    case atStart => exact ⟨0, by omega, rfl, hid (fun j hj => absurd hj (Nat.not_lt_zero j)), Ext.refl w⟩
    case round =>
      obtain ⟨i, hi, rfl, Hall, he⟩ := hrel
      by_cases hlt : i < n
      · have hp' := a2.ext he
        have hq' := b2.ext he
        obtain ⟨ci, e1⟩ : ∃ ci, css[i]? = some ci := ⟨_, List.getElem?_eq_getElem (by rw [A7.out]; exact hlt)⟩
        obtain ⟨di, e2⟩ : ∃ di, dss[i]? = some di := ⟨_, List.getElem?_eq_getElem (by rw [B7.out]; exact hlt)⟩
        have L1 := hid (A6.out ci (List.mem_of_getElem? e1))
        have L2 := hid (B6.out di (List.mem_of_getElem? e2))
        have O1 := hid (Ao.out ci (List.mem_of_getElem? e1))
        have O2 := hid (Bo.out di (List.mem_of_getElem? e2))
        have hs1 := a2.some_of A6.out (by decide) (show 0 < css.length by rw [A7.out]; omega)
        have hs2 := b2.some_of B6.out (by decide) (show 0 < dss.length by rw [B7.out]; omega)
        have C := hid (fun W (h : Ext wr W) => Hf.out i ci di W e1 e2 (he.trans h))
        have E1 := hid e1
        have E2 := hid e2
        obtain ⟨b, hb⟩ : ∃ b, f i = b := ⟨_, rfl⟩
        rw [hb] at C
        have Hb := hid hb
        clear hb e1 e2
        cases b with
        | true =>
          go_wp2_with (first | (go_at_fn fn; refine (C.out _ (E5.trans E6)).mono ?_; rintro e w7 ⟨rfl, e7⟩) | (refine wl_idxloadE (s := shLayer) (j := i) rfl rfl rfl rfl (fun _ => rfl) rfl rfl rfl hp' A6.out A7.out hlt hs1 E1.out ?_) | (refine wl_stA (s := shLayer) (cs := ci) rfl rfl rfl rfl (heap_alloc_new _ _) rfl L1.out O1.out (by decide) ?_; intro w5 c5 ch5; have E5 : Ext wr w5 := (Ext.alloc _ _).chg ch5 (fun b hb => by subst hb; exact Nat.le_refl _); clear ch5) | (refine wl_idxloadE (s := shLayer) (j := i) rfl rfl rfl rfl (fun _ => rfl) rfl rfl rfl (hq'.ext E5) B6.out B7.out hlt hs2 E2.out ?_) | (refine wl_stA (s := shLayer) (cs := di) rfl rfl rfl rfl (heap_alloc_new _ _) rfl L2.out O2.out (by decide) ?_; intro w6 c6 ch6; have E6 : Ext w5 w6 := (Ext.alloc _ _).chg ch6 (fun b hb => by subst hb; exact Nat.le_refl _); clear ch6; have c5' := c5.ext E6) | (refine wl_ldA (s := shLayer) (cs := ci) rfl rfl rfl c5' L1.out ?_) | (refine wl_ldA (s := shLayer) (cs := di) rfl rfl rfl c6 L2.out ?_))
          go_roundw
          case rel =>
            refine ⟨i + 1, by omega, by go_num, hid fun j hj => ?_, ((he.trans E5).trans E6).trans e7⟩
            by_cases hji : j = i
            · subst hji; exact Hb.out
            · exact Hall.out j (by omega)
          case measure => simp [intOf]; omega
        | false =>
          go_wp2_with (first | (go_at_fn fn; refine (C.out _ (E5.trans E6)).mono ?_; rintro e w7 ⟨rfl, e7⟩) | (refine wl_idxloadE (s := shLayer) (j := i) rfl rfl rfl rfl (fun _ => rfl) rfl rfl rfl hp' A6.out A7.out hlt hs1 E1.out ?_) | (refine wl_stA (s := shLayer) (cs := ci) rfl rfl rfl rfl (heap_alloc_new _ _) rfl L1.out O1.out (by decide) ?_; intro w5 c5 ch5; have E5 : Ext wr w5 := (Ext.alloc _ _).chg ch5 (fun b hb => by subst hb; exact Nat.le_refl _); clear ch5) | (refine wl_idxloadE (s := shLayer) (j := i) rfl rfl rfl rfl (fun _ => rfl) rfl rfl rfl (hq'.ext E5) B6.out B7.out hlt hs2 E2.out ?_) | (refine wl_stA (s := shLayer) (cs := di) rfl rfl rfl rfl (heap_alloc_new _ _) rfl L2.out O2.out (by decide) ?_; intro w6 c6 ch6; have E6 : Ext w5 w6 := (Ext.alloc _ _).chg ch6 (fun b hb => by subst hb; exact Nat.le_refl _); clear ch6; have c5' := c5.ext E6) | (refine wl_ldA (s := shLayer) (cs := ci) rfl rfl rfl c5' L1.out ?_) | (refine wl_ldA (s := shLayer) (cs := di) rfl rfl rfl c6 L2.out ?_))
          go_ret
          refine ⟨?_, ((he.trans E5).trans E6).trans e7⟩
          have : anyTo (fun i => !f i) n = true := anyTo_true.2 ⟨i, hlt, by rw [Hb.out]; rfl⟩
          rw [this]; simp
      · obtain rfl : i = n := by omega
        go_wp2
        go_ret
        refine ⟨?_, he⟩
        have : anyTo (fun i => !f i) i = false := anyTo_false fun j hj => by rw [Hall.out j hj]; rfl
        rw [this]; simp
  · have h : decide (n = m) = false := decide_eq_false hnm
    rw [h, Bool.false_and]
    clear h hf eg
    go_enter Try.func174, Try.ntmps174
    go_wp2
    go_ret
    exact ⟨rfl, Ext.refl w⟩
end Go.Proofs.Ytlimabbeaimdgaa
/- Layers: which are valid. -/
namespace Go.Proofs.Ytlimabbeaimdgaa
set_option linter.unusedSimpArgs false
set_option linter.unusedVariables false
open Go.RowKit

def wCnt (k i o : Int) : Int := if k = 0 then i * o else if k = 2 then i else if k = 5 then i else 0
def bCnt (k i o : Int) : Int := if k = 0 then o else if k = 2 then 0 else if k = 5 then i else 0
/-- Which layers are valid. -/
def layB (k i o : Int) (nw nb : Nat) : Bool := inB k 0 5 && (inB i 1 8 && (inB o 1 8 && ((decide (k = 0) || decide (i = o)) && (decide ((nw : Int) = wCnt k i o) && decide ((nb : Int) = bCnt k i o)))))
theorem beq_t {a b : Int} (h : a = b) : (a == b) = true := beq_iff_eq.2 h
theorem beq_f {a b : Int} (h : ¬ a = b) : (a == b) = false := beq_eq_false_iff_ne.2 h
theorem bne_t {a b : Int} (h : ¬ a = b) : (a != b) = true := by simp [h]
theorem bne_f {a b : Int} (h : a = b) : (a != b) = false := by simp [h]
theorem mul_bd {i o : Int} (hi : 1 ≤ i ∧ i ≤ 8) (ho : 1 ≤ o ∧ o ≤ 8) : 0 ≤ i * o ∧ i * o ≤ 64 :=
  ⟨Int.mul_nonneg (by omega) (by omega), by have := Int.mul_le_mul hi.2 ho.2 (by omega) (by decide); omega⟩

set_option maxRecDepth 100000 in
set_option maxHeartbeats 1000000 in
theorem isSize_any (n : Int) (w : World) : Calls Try.prog 154 #[.int .i64 n] w fun e w' => e = .returned (.bool (inB n 1 8)) ∧ w = w' := by
  go_enter Try.func154, Try.ntmps154
  go_wp2_with (refine (within_any _ _ _ _).mono ?_; rintro e w' ⟨rfl, rfl⟩)
  go_ret
  exact ⟨rfl, rfl⟩

set_option maxRecDepth 100000 in
set_option maxHeartbeats 1000000 in
theorem ValidLayer_any (k i o : Int) (pw pb : Option Addr) (nw cw nb cb : Nat) (w : World) (h1 : nw ≤ maxLen) (h2 : nb ≤ maxLen) :
    Calls Try.prog 109 #[.agg #[.int .i64 k, .int .i64 i, .int .i64 o, .slice pw nw cw, .slice pb nb cb]] w (RetB w (layB k i o nw nb)) := by
  unfold maxLen at h1 h2
  generalize hB : layB k i o nw nb = B
  have HB := hid hB
  clear hB
  unfold layB at HB
  cases k1 : inB k 0 5
  · have K1 := hid k1
    have : B = false := by rw [← HB.out, k1]; rfl
    subst this
    clear k1
    go_enter Try.func109, Try.ntmps109
    go_wp2_with (go_at_call 81; refine (within_any _ _ _ _).mono ?_; rintro e w1 ⟨rfl, rfl⟩; rw [K1.out])
    go_ret
    exact ⟨rfl, Ext.alloc _ _⟩
  cases k2 : inB i 1 8
  · have K1 := hid k1
    have K2 := hid k2
    have : B = false := by rw [← HB.out, k1, k2]; rfl
    subst this
    clear k1 k2
    go_enter Try.func109, Try.ntmps109
    go_wp2_with (first | (go_at_call 81; refine (within_any _ _ _ _).mono ?_; rintro e w1 ⟨rfl, rfl⟩; rw [K1.out]) | (go_at_call 154; refine (isSize_any _ _).mono ?_; rintro e w1 ⟨rfl, rfl⟩; rw [K2.out]))
    go_ret
    exact ⟨rfl, Ext.alloc _ _⟩
  cases k3 : inB o 1 8
  · have K1 := hid k1
    have K2 := hid k2
    have K3 := hid k3
    have : B = false := by rw [← HB.out, k1, k2, k3]; rfl
    subst this
    clear k1 k2 k3
    go_enter Try.func109, Try.ntmps109
    go_wp2_with (first | (go_at_call 81; refine (within_any _ _ _ _).mono ?_; rintro e w1 ⟨rfl, rfl⟩; rw [K1.out]) | (go_at_call 154; refine (isSize_any _ _).mono ?_; rintro e w1 ⟨rfl, rfl⟩; first | rw [K2.out] | rw [K3.out]))
    go_ret
    exact ⟨rfl, Ext.alloc _ _⟩
  have K1 := hid k1
  have K2 := hid k2
  have K3 := hid k3
  rw [inB_true] at k1 k2 k3
  obtain ⟨m0, m1⟩ := mul_bd k2 k3
  have hB2 : B = ((decide (k = 0) || decide (i = o)) && (decide ((nw : Int) = wCnt k i o) && decide ((nb : Int) = bCnt k i o))) := by rw [← HB.out, K1.out, K2.out, K3.out]; rfl
  clear HB
  by_cases hk0 : k = 0
  · subst hk0
    have hw : wCnt 0 i o = i * o := rfl
    have hb : bCnt 0 i o = o := rfl
    rw [hw, hb] at hB2
    have hwr : wrap64 (o * i) = o * i := by
      have m2 : o * i = i * o := Int.mul_comm o i
      unfold wrap64; rw [m2]; omega
    by_cases e1 : (nw : Int) = i * o
    · by_cases e2 : (nb : Int) = o
      all_goals
        have E1 := beq_t (e1.trans (Int.mul_comm i o))
        first | have E2 := beq_t e2 | have E2 := beq_f e2
        simp only [e1, e2, decide_true, decide_false, Bool.true_or, Bool.or_true, Bool.true_and, Bool.and_true, Bool.and_false] at hB2
        subst hB2
        clear e1 e2 hw hb
        go_enter Try.func109, Try.ntmps109
        go_wp2_with (first | (go_at_call 81; refine (within_any _ _ _ _).mono ?_; rintro e w1 ⟨rfl, rfl⟩; rw [K1.out]) | (go_at_call 154; refine (isSize_any _ _).mono ?_; rintro e w1 ⟨rfl, rfl⟩; first | rw [K2.out] | rw [K3.out]))
        refine wp_region_xall (F := fun _ _ _ => True) (by kernel_rfl) (by kernel_rfl) (by kernel_rfl) ?_
        intro wf hwf
        repeat (first
          | (refine x_skip rfl ?_; simp only [Act.put, ev_tmp, List.setIfInBounds_toArray, List.set_cons_succ, List.set_cons_zero, List.getD_cons_succ, List.getD_cons_zero])
          | (refine x_mv rfl rfl rfl ?_; simp only [Act.put, ev_tmp, List.setIfInBounds_toArray, List.set_cons_succ, List.set_cons_zero, List.getD_cons_succ, List.getD_cons_zero])
          | (refine x_as rfl rfl rfl ?_; simp only [Act.put, ev_tmp, List.setIfInBounds_toArray, List.set_cons_succ, List.set_cons_zero, List.getD_cons_succ, List.getD_cons_zero])
          | (refine x_run rfl fun K hK w1 hw1 => ?_; have k0 := hw1.cellOf (b := w.heap.size) (by simp); go_simp; refine hK _ ?_; clear hK K k0 hw1 w1))
        refine x_nil ?_
        have z := hwf.cellOf (b := w.heap.size) (by simp)
        go_wp2
        go_ret
        exact ⟨rfl, ((Ext.alloc _ _).trans (Ext.drew _)).trans hwf⟩
    · have E1 := beq_f (fun h => e1 (h.trans (Int.mul_comm o i)))
      simp only [e1, decide_true, decide_false, Bool.true_or, Bool.or_true, Bool.true_and, Bool.false_and, Bool.and_false] at hB2
      subst hB2
      clear e1 hw hb
      go_enter Try.func109, Try.ntmps109
      go_wp2_with (first | (go_at_call 81; refine (within_any _ _ _ _).mono ?_; rintro e w1 ⟨rfl, rfl⟩; rw [K1.out]) | (go_at_call 154; refine (isSize_any _ _).mono ?_; rintro e w1 ⟨rfl, rfl⟩; first | rw [K2.out] | rw [K3.out]))
      refine wp_region_xall (F := fun _ _ _ => True) (by kernel_rfl) (by kernel_rfl) (by kernel_rfl) ?_
      intro wf hwf
      repeat (first
        | (refine x_skip rfl ?_; simp only [Act.put, ev_tmp, List.setIfInBounds_toArray, List.set_cons_succ, List.set_cons_zero, List.getD_cons_succ, List.getD_cons_zero])
        | (refine x_mv rfl rfl rfl ?_; simp only [Act.put, ev_tmp, List.setIfInBounds_toArray, List.set_cons_succ, List.set_cons_zero, List.getD_cons_succ, List.getD_cons_zero])
        | (refine x_as rfl rfl rfl ?_; simp only [Act.put, ev_tmp, List.setIfInBounds_toArray, List.set_cons_succ, List.set_cons_zero, List.getD_cons_succ, List.getD_cons_zero])
        | (refine x_run rfl fun K hK w1 hw1 => ?_; have k0 := hw1.cellOf (b := w.heap.size) (by simp); go_simp; refine hK _ ?_; clear hK K k0 hw1 w1))
      refine x_nil ?_
      have z := hwf.cellOf (b := w.heap.size) (by simp)
      go_wp2
      go_ret
      exact ⟨rfl, ((Ext.alloc _ _).trans (Ext.drew _)).trans hwf⟩
  by_cases hio : ¬ i = o
  · have F0 := bne_t hk0
    have F1 := bne_t hio
    have : B = false := by rw [hB2]; simp [hk0, hio]
    subst this
    clear hk0 hio hB2
    go_enter Try.func109, Try.ntmps109
    go_wp2_with (first | (go_at_call 81; refine (within_any _ _ _ _).mono ?_; rintro e w1 ⟨rfl, rfl⟩; rw [K1.out]) | (go_at_call 154; refine (isSize_any _ _).mono ?_; rintro e w1 ⟨rfl, rfl⟩; first | rw [K2.out] | rw [K3.out]))
    go_ret
    exact ⟨rfl, Ext.alloc _ _⟩
  have hio := Classical.not_not.1 hio
  subst hio
  by_cases hk2 : k = 2
  · subst hk2
    have hw : wCnt 2 i i = i := rfl
    have hb : bCnt 2 i i = 0 := rfl
    rw [hw, hb] at hB2
    by_cases e1 : (nw : Int) = i
    · by_cases e2 : (nb : Int) = 0
      all_goals
        have E1 := beq_t e1
        first | have E2 := beq_t e2 | have E2 := beq_f e2
        simp only [e1, e2, decide_true, decide_false, Bool.true_or, Bool.or_true, Bool.true_and, Bool.and_true, Bool.and_false] at hB2
        subst hB2
        clear e1 e2 hw hb
        go_enter Try.func109, Try.ntmps109
        go_wp2_with (first | (go_at_call 81; refine (within_any _ _ _ _).mono ?_; rintro e w1 ⟨rfl, rfl⟩; rw [K1.out]) | (go_at_call 154; refine (isSize_any _ _).mono ?_; rintro e w1 ⟨rfl, rfl⟩; first | rw [K2.out] | rw [K3.out]))
        go_ret
        exact ⟨rfl, Ext.alloc _ _⟩
    · have E1 := beq_f e1
      simp only [e1, decide_true, decide_false, Bool.true_or, Bool.or_true, Bool.true_and, Bool.false_and, Bool.and_false] at hB2
      subst hB2
      clear e1 hw hb
      go_enter Try.func109, Try.ntmps109
      go_wp2_with (first | (go_at_call 81; refine (within_any _ _ _ _).mono ?_; rintro e w1 ⟨rfl, rfl⟩; rw [K1.out]) | (go_at_call 154; refine (isSize_any _ _).mono ?_; rintro e w1 ⟨rfl, rfl⟩; first | rw [K2.out] | rw [K3.out]))
      go_ret
      exact ⟨rfl, Ext.alloc _ _⟩
  by_cases hk5 : k = 5
  · subst hk5
    have hw : wCnt 5 i i = i := rfl
    have hb : bCnt 5 i i = i := rfl
    rw [hw, hb] at hB2
    by_cases e1 : (nw : Int) = i
    · by_cases e2 : (nb : Int) = i
      all_goals
        have E1 := beq_t e1
        first | have E2 := beq_t e2 | have E2 := beq_f e2
        simp only [e1, e2, decide_true, decide_false, Bool.true_or, Bool.or_true, Bool.true_and, Bool.and_true, Bool.and_false] at hB2
        subst hB2
        clear e1 e2 hw hb
        go_enter Try.func109, Try.ntmps109
        go_wp2_with (first | (go_at_call 81; refine (within_any _ _ _ _).mono ?_; rintro e w1 ⟨rfl, rfl⟩; rw [K1.out]) | (go_at_call 154; refine (isSize_any _ _).mono ?_; rintro e w1 ⟨rfl, rfl⟩; first | rw [K2.out] | rw [K3.out]))
        refine wp_region_xall (F := fun _ _ _ => True) (by kernel_rfl) (by kernel_rfl) (by kernel_rfl) ?_
        intro wf hwf
        repeat (first
          | (refine x_skip rfl ?_; simp only [Act.put, ev_tmp, List.setIfInBounds_toArray, List.set_cons_succ, List.set_cons_zero, List.getD_cons_succ, List.getD_cons_zero])
          | (refine x_mv rfl rfl rfl ?_; simp only [Act.put, ev_tmp, List.setIfInBounds_toArray, List.set_cons_succ, List.set_cons_zero, List.getD_cons_succ, List.getD_cons_zero])
          | (refine x_as rfl rfl rfl ?_; simp only [Act.put, ev_tmp, List.setIfInBounds_toArray, List.set_cons_succ, List.set_cons_zero, List.getD_cons_succ, List.getD_cons_zero])
          | (refine x_run rfl fun K hK w1 hw1 => ?_; have k0 := hw1.cellOf (b := w.heap.size) (by simp); go_simp; refine hK _ ?_; clear hK K k0 hw1 w1))
        refine x_nil ?_
        have z := hwf.cellOf (b := w.heap.size) (by simp)
        go_wp2
        go_ret
        exact ⟨rfl, ((Ext.alloc _ _).trans (Ext.drew _)).trans hwf⟩
    · have E1 := beq_f e1
      simp only [e1, decide_true, decide_false, Bool.true_or, Bool.or_true, Bool.true_and, Bool.false_and, Bool.and_false] at hB2
      subst hB2
      clear e1 hw hb
      go_enter Try.func109, Try.ntmps109
      go_wp2_with (first | (go_at_call 81; refine (within_any _ _ _ _).mono ?_; rintro e w1 ⟨rfl, rfl⟩; rw [K1.out]) | (go_at_call 154; refine (isSize_any _ _).mono ?_; rintro e w1 ⟨rfl, rfl⟩; first | rw [K2.out] | rw [K3.out]))
      refine wp_region_xall (F := fun _ _ _ => True) (by kernel_rfl) (by kernel_rfl) (by kernel_rfl) ?_
      intro wf hwf
      repeat (first
        | (refine x_skip rfl ?_; simp only [Act.put, ev_tmp, List.setIfInBounds_toArray, List.set_cons_succ, List.set_cons_zero, List.getD_cons_succ, List.getD_cons_zero])
        | (refine x_mv rfl rfl rfl ?_; simp only [Act.put, ev_tmp, List.setIfInBounds_toArray, List.set_cons_succ, List.set_cons_zero, List.getD_cons_succ, List.getD_cons_zero])
        | (refine x_as rfl rfl rfl ?_; simp only [Act.put, ev_tmp, List.setIfInBounds_toArray, List.set_cons_succ, List.set_cons_zero, List.getD_cons_succ, List.getD_cons_zero])
        | (refine x_run rfl fun K hK w1 hw1 => ?_; have k0 := hw1.cellOf (b := w.heap.size) (by simp); go_simp; refine hK _ ?_; clear hK K k0 hw1 w1))
      refine x_nil ?_
      have z := hwf.cellOf (b := w.heap.size) (by simp)
      go_wp2
      go_ret
      exact ⟨rfl, ((Ext.alloc _ _).trans (Ext.drew _)).trans hwf⟩
  have F0 := bne_t hk0
  have F0' := beq_f hk0
  have F2 := beq_f hk2
  have F5 := beq_f hk5
  have hw : wCnt k i i = 0 := by unfold wCnt; rw [if_neg hk0, if_neg hk2, if_neg hk5]
  have hb : bCnt k i i = 0 := by unfold bCnt; rw [if_neg hk0, if_neg hk2, if_neg hk5]
  rw [hw, hb] at hB2
  clear hk0 hk2 hk5 hw hb
  by_cases e1 : (nw : Int) = 0
  · by_cases e2 : (nb : Int) = 0
    all_goals
      have E1 := beq_t e1
      first | have E2 := beq_t e2 | have E2 := beq_f e2
      simp only [e1, e2, decide_true, decide_false, Bool.true_or, Bool.or_true, Bool.true_and, Bool.and_true, Bool.and_false] at hB2
      subst hB2
      clear e1 e2
      go_enter Try.func109, Try.ntmps109
      go_wp2_with (first | (go_at_call 81; refine (within_any _ _ _ _).mono ?_; rintro e w1 ⟨rfl, rfl⟩; rw [K1.out]) | (go_at_call 154; refine (isSize_any _ _).mono ?_; rintro e w1 ⟨rfl, rfl⟩; first | rw [K2.out] | rw [K3.out]))
      go_ret
      exact ⟨rfl, Ext.alloc _ _⟩
  · have E1 := beq_f e1
    simp only [e1, decide_true, decide_false, Bool.true_or, Bool.or_true, Bool.true_and, Bool.false_and, Bool.and_false] at hB2
    subst hB2
    clear e1
    go_enter Try.func109, Try.ntmps109
    go_wp2_with (first | (go_at_call 81; refine (within_any _ _ _ _).mono ?_; rintro e w1 ⟨rfl, rfl⟩; rw [K1.out]) | (go_at_call 154; refine (isSize_any _ _).mono ?_; rintro e w1 ⟨rfl, rfl⟩; first | rw [K2.out] | rw [K3.out]))
    go_ret
    exact ⟨rfl, Ext.alloc _ _⟩
end Go.Proofs.Ytlimabbeaimdgaa
/- Layers, models and states that are the same: the program's functions. -/
namespace Go.Proofs.Ytlimabbeaimdgaa
set_option linter.unusedSimpArgs false
set_option linter.unusedVariables false
open Go.RowKit

/-- A list of numbers behind a slice. -/
def Fl3 (w : World) (p : Option Addr) (xs : List Nat) : Prop := ∃ vs, Cs w p vs ∧ F32s vs xs ∧ xs.length ≤ maxLen ∧ In32 xs
theorem Fl3.ext {w w' : World} {p : Option Addr} {xs : List Nat} (h : Fl3 w p xs) (e : Ext w w') : Fl3 w' p xs := by
  obtain ⟨vs, h1, h2, h3, h4⟩ := h; exact ⟨vs, h1.ext e, h2, h3, h4⟩
theorem fl3_of {w : World} {cs : List Value} {xs : List Nat} (h : Rep w (.sl .flt) cs xs) (hf : Fit (.sl .flt) xs) : ∃ p c, cs = [.slice p xs.length c] ∧ Fl3 w p xs := by
  obtain ⟨p, c, vs, rfl, h1, h2, h3, h4⟩ := rep_flts.1 h
  exact ⟨p, c, rfl, vs, h1, h2, Nat.le_trans h3 h4, hf⟩
theorem lay_cells {w : World} {cs : List Value} {d : shLayer.T} (h : Rep w shLayer cs d) (hf : Fit shLayer d) : ∃ pw cw pb cb, cs = [.int .i64 d.1, .int .i64 d.2.1, .int .i64 d.2.2.1, .slice pw d.2.2.2.1.length cw, .slice pb d.2.2.2.2.1.length cb] ∧ Fl3 w pw d.2.2.2.1 ∧ Fl3 w pb d.2.2.2.2.1 := by
  obtain ⟨a1, a2, a3, a4, a5, au⟩ := d
  obtain ⟨_, _, rfl, rfl, _, _, rfl, rfl, _, _, rfl, rfl, _, _, rfl, h4, _, _, rfl, h5, rfl⟩ := h
  obtain ⟨_, _, _, f4, f5, _⟩ := hf
  obtain ⟨p4, c4, rfl, l4⟩ := fl3_of h4 f4
  obtain ⟨p5, c5, rfl, l5⟩ := fl3_of h5 f5
  exact ⟨p4, c4, p5, c5, rfl, l4, l5⟩
theorem sameLists_fl3 {p q : Option Addr} {n m c d : Nat} {xs ys : List Nat} {w : World} (h1 : Fl3 w p xs) (h2 : Fl3 w q ys) (hn : xs.length = n) (hm : ys.length = m) :
    Calls Try.prog 197 #[.slice p n c, .slice q m d] w (RetB w (eqT (.sl .flt) xs ys)) := by
  obtain ⟨us, a1, a2, a3, a4⟩ := h1
  obtain ⟨vs, b1, b2, b3, b4⟩ := h2
  rw [eqT_flts]
  exact sameLists_any p q n m c d us vs xs ys w hn hm (by omega) a1 b1 a2 b2 a4 b4
set_option maxRecDepth 100000 in
set_option maxHeartbeats 1000000 in
theorem sameLayer_any (d e : shLayer.T) (ci di : List Value) (w : World) (r1 : Rep w shLayer ci d) (r2 : Rep w shLayer di e) (f1 : Fit shLayer d) (f2 : Fit shLayer e) :
    Calls Try.prog 175 #[ofCs shLayer ci, ofCs shLayer di] w (RetB w (eqT shLayer d e)) := by
  obtain ⟨pw, cw, pb, cb, rfl, w1, b1⟩ := lay_cells r1 f1
  obtain ⟨qw, dw, qb, db, rfl, w2, b2⟩ := lay_cells r2 f2
  obtain ⟨x1, x2, x3, x4, x5, xu⟩ := d
  obtain ⟨y1, y2, y3, y4, y5, yu⟩ := e
  clear r1 r2 f1 f2
  dsimp only at *
  have hres : eqT shLayer (x1, x2, x3, x4, x5, xu) (y1, y2, y3, y4, y5, yu) = (decide ((x1 : Int) = y1) && (decide ((x2 : Int) = y2) && (decide ((x3 : Int) = y3) && (eqT (.sl .flt) x4 y4 && (eqT (.sl .flt) x5 y5 && true))))) := rfl
  rw [hres, ofCs_agg rfl, ofCs_agg rfl]
  clear hres
  have C4 := hid (fun W (h : Ext w W) => sameLists_fl3 (n := x4.length) (m := y4.length) (c := cw) (d := dw) (w1.ext h) (w2.ext h) rfl rfl)
  have C5 := hid (fun W (h : Ext w W) => sameLists_fl3 (n := x5.length) (m := y5.length) (c := cb) (d := db) (b1.ext h) (b2.ext h) rfl rfl)
  generalize eqT (.sl .flt) x4 y4 = e4 at *
  generalize eqT (.sl .flt) x5 y5 = e5 at *
  generalize x4.length = l4 at *
  generalize y4.length = k4 at *
  generalize x5.length = l5 at *
  generalize y5.length = k5 at *
  clear w1 w2 b1 b2
  by_cases g1 : (x1 : Int) = y1
  · rw [decide_eq_true g1, Bool.true_and]
    have Q1 := beq_t g1
    clear g1
    by_cases g2 : (x2 : Int) = y2
    · rw [decide_eq_true g2, Bool.true_and]
      have Q2 := beq_t g2
      clear g2
      by_cases g3 : (x3 : Int) = y3
      · rw [decide_eq_true g3, Bool.true_and]
        have Q3 := beq_t g3
        clear g3
        cases e4 with
        | false =>
          go_enter Try.func175, Try.ntmps175
          go_wp2_with fail
          refine (C4.out _ ((Ext.alloc _ _).trans (Ext.alloc _ _))).mono ?_
          rintro e v1 ⟨rfl, e1⟩
          go_wp2
          go_ret
          exact ⟨rfl, (((Ext.alloc _ _).trans (Ext.alloc _ _)).trans e1)⟩
        | true =>
          cases e5 with
          | false =>
            go_enter Try.func175, Try.ntmps175
            go_wp2_with fail
            refine (C4.out _ ((Ext.alloc _ _).trans (Ext.alloc _ _))).mono ?_
            rintro e v1 ⟨rfl, e1⟩
            have f1 := e1.cell (p := ⟨w.heap.size, 4, none⟩) (v := .slice pb l5 cb) (by simp)
            have f2 := e1.cell (p := ⟨w.heap.size + 1, 4, none⟩) (v := .slice qb k5 db) (by simp)
            go_wp2_with fail
            refine (C5.out _ (((Ext.alloc _ _).trans (Ext.alloc _ _)).trans e1)).mono ?_
            rintro e v2 ⟨rfl, e2⟩
            go_wp2
            go_ret
            exact ⟨rfl, ((((Ext.alloc _ _).trans (Ext.alloc _ _)).trans e1).trans e2)⟩
          | true =>
            go_enter Try.func175, Try.ntmps175
            go_wp2_with fail
            refine (C4.out _ ((Ext.alloc _ _).trans (Ext.alloc _ _))).mono ?_
            rintro e v1 ⟨rfl, e1⟩
            have f1 := e1.cell (p := ⟨w.heap.size, 4, none⟩) (v := .slice pb l5 cb) (by simp)
            have f2 := e1.cell (p := ⟨w.heap.size + 1, 4, none⟩) (v := .slice qb k5 db) (by simp)
            go_wp2_with fail
            refine (C5.out _ (((Ext.alloc _ _).trans (Ext.alloc _ _)).trans e1)).mono ?_
            rintro e v2 ⟨rfl, e2⟩
            go_wp2
            go_ret
            exact ⟨rfl, ((((Ext.alloc _ _).trans (Ext.alloc _ _)).trans e1).trans e2)⟩
      · rw [decide_eq_false g3, Bool.false_and]
        have Q3 := beq_f g3
        clear g3
        go_enter Try.func175, Try.ntmps175
        go_wp2
        go_ret
        exact ⟨rfl, ((Ext.alloc _ _).trans (Ext.alloc _ _))⟩
    · rw [decide_eq_false g2, Bool.false_and]
      have Q2 := beq_f g2
      clear g2
      go_enter Try.func175, Try.ntmps175
      go_wp2
      go_ret
      exact ⟨rfl, ((Ext.alloc _ _).trans (Ext.alloc _ _))⟩
  · rw [decide_eq_false g1, Bool.false_and]
    have Q1 := beq_f g1
    clear g1
    go_enter Try.func175, Try.ntmps175
    go_wp2
    go_ret
    exact ⟨rfl, ((Ext.alloc _ _).trans (Ext.alloc _ _))⟩
end Go.Proofs.Ytlimabbeaimdgaa
/- Layers and slots behind slices. -/
namespace Go.Proofs.Ytlimabbeaimdgaa
set_option linter.unusedSimpArgs false
set_option linter.unusedVariables false
open Go.RowKit

/-- Two lists of layers behind slices, two lists of slots. -/
structure Lays (w : World) (p : Option Addr) (n : Nat) (css : List (List Value)) (l : List shLayer.T) : Prop where
  cs : Cs w p css.flatten
  all : All2 (Rep w shLayer) css l
  size : ∀ c ∈ css, c.length = shLayer.sz
  one : ∀ c ∈ css, ∀ u ∈ c, u.oneCell' = true
  len : l.length = n
  cnt : css.length = n
  fit : ∀ x ∈ l, Fit shLayer x
  le : n ≤ maxLen
theorem Lays.ext {w w' : World} {p : Option Addr} {n : Nat} {css : List (List Value)} {l : List shLayer.T} (h : Lays w p n css l) (e : Ext w w') : Lays w' p n css l :=
  ⟨h.cs.ext e, h.all.imp fun _ _ => Rep.ext e, h.size, h.one, h.len, h.cnt, h.fit, h.le⟩
theorem lays_of {w : World} {v : Value} {l : List shLayer.T} (h : Rep w (.sl shLayer) [v] l) (hf : Fit (.sl shLayer) l) : ∃ p c css, v = .slice p l.length c ∧ Lays w p l.length css l := by
  obtain ⟨p, c, css, h1, a2, a3, a4, a5⟩ := h
  cases h1
  refine ⟨p, c, css, rfl, a2, a5, fun c hc => ?_, fun c hc => ?_, rfl, a5.length, hf, Nat.le_trans a3 a4⟩
  · obtain ⟨i, hi, rfl⟩ := List.mem_iff_getElem.1 hc; obtain ⟨_, h⟩ := a5.get' i (by rw [← a5.length]; exact hi); exact h.size
  · obtain ⟨i, hi, rfl⟩ := List.mem_iff_getElem.1 hc; obtain ⟨_, h⟩ := a5.get' i (by rw [← a5.length]; exact hi); exact h.one
structure Slts (w : World) (p : Option Addr) (n : Nat) (us : List Value) (l : List (List Nat)) : Prop where
  cs : Cs w p us
  at' : ∀ i, i < n → ∃ q c, us[i]? = some (.slice q (l.getD i []).length c) ∧ Fl3 w q (l.getD i [])
  len : l.length = n
  cnt : us.length = n
  le : n ≤ maxLen
theorem Slts.ext {w w' : World} {p : Option Addr} {n : Nat} {us : List Value} {l : List (List Nat)} (h : Slts w p n us l) (e : Ext w w') : Slts w' p n us l :=
  ⟨h.cs.ext e, fun i hi => by obtain ⟨q, c, h1, h2⟩ := h.at' i hi; exact ⟨q, c, h1, h2.ext e⟩, h.len, h.cnt, h.le⟩
theorem slts_of {w : World} {v : Value} {l : List (List Nat)} (h : Rep w (.sl (.sl .flt)) [v] l) (hf : Fit (.sl (.sl .flt)) l) : ∃ p c us, v = .slice p l.length c ∧ Slts w p l.length us l := by
  obtain ⟨p, c, css, h1, a2, a3, a4, a5⟩ := h
  cases h1
  have a6 : ∀ c ∈ css, c.length = 1 := fun c hc => by obtain ⟨i, hi, rfl⟩ := List.mem_iff_getElem.1 hc; obtain ⟨_, h⟩ := a5.get' i (by rw [← a5.length]; exact hi); exact h.size
  refine ⟨p, c, css.flatten, rfl, a2, fun i hi => ?_, rfl, by rw [flat_len' a6, a5.length, Nat.mul_one], Nat.le_trans a3 a4⟩
  obtain ⟨h1, h2⟩ := a5.get' i hi
  obtain ⟨p1, c1, g1, k1⟩ := fl3_of h2 (hf _ (by simp))
  have hd : l.getD i [] = l[i] := by simp [show i < l.length from hi]
  rw [hd]
  refine ⟨p1, c1, ?_, k1⟩
  have := flat_get' (j := 0) a6 h1 (by decide)
  rw [Nat.mul_one, Nat.add_zero, g1] at this
  simpa using this
end Go.Proofs.Ytlimabbeaimdgaa
/- Cells of elements at their own addresses. -/
namespace Go.Proofs.Ytlimabbeaimdgaa
set_option linter.unusedSimpArgs false
set_option linter.unusedVariables false
open Go.RowKit

/-- A cell of an element, at its own address, in any later world. -/
theorem fcell {w w1 : World} {p : Option Addr} {css : List (List Value)} {s n i : Nat} {cs : List Value} {v : Value} (hp : Cs w p css.flatten) (h6 : ∀ c ∈ css, c.length = s) (h7 : css.length = n) (hi : i < n) (hc : css[i]? = some cs) (j : Nat) (hx : Ext w w1) (hv : cs[j]? = some v) :
    w1.cell? ((adr p (i * s)).add j) = some v := by
  obtain ⟨_, rfl⟩ := List.getElem?_eq_some_iff.1 hc
  have hj : j < s := by have := (List.getElem?_eq_some_iff.1 hv).1; rwa [h6 _ (List.getElem_mem _)] at this
  have h1 := (hp.ext hx).cell (i * s + j) v (by rw [flat_get h6 (by omega) hj]; exact hv)
  unfold adr at h1 ⊢
  rw [Go.Proofs.Ytlimabbeaimdgaa.add_add]; exact h1

end Go.Proofs.Ytlimabbeaimdgaa
/- Layers: the reference's part. -/
namespace Go.Proofs.Ytlimabbeaimdgaa
set_option linter.unusedSimpArgs false
set_option linter.unusedVariables false
open Go.RowKit

set_option maxRecDepth 100000 in
set_option maxHeartbeats 1000000 in
theorem l03Counts_any {sp : Option Nat} (bl o' : Nat) (k i o : Int) (w : World) (f0 : w.cell? ⟨bl, o', sp⟩ = some (.int .i64 k)) (f1 : w.cell? ⟨bl, o' + 1, none⟩ = some (.int .i64 i)) (f2 : w.cell? ⟨bl, o' + 2, none⟩ = some (.int .i64 o)) (k2 : 1 ≤ i ∧ i ≤ 8) (k3 : 1 ≤ o ∧ o ≤ 8) :
    Calls Try.prog 178 #[.pointer (some ⟨bl, o', sp⟩)] w fun e w' => e = .returned (.tuple #[.int .i64 (wCnt k i o), .int .i64 (bCnt k i o)]) ∧ Ext w w' := by
  obtain ⟨m0, m1⟩ := mul_bd k2 k3
  by_cases hk0 : k = 0
  · subst hk0
    have hw : wCnt 0 i o = i * o := rfl
    have hb : bCnt 0 i o = o := rfl
    rw [hw, hb]
    have hwr : IntKind.i64.wrap (i * o) = i * o := wrap_in _ (by omega) (by omega)
    have d1 := (Ext.drew w).cell f1
    have d2 := (Ext.drew w).cell f2
    clear hw hb
    go_enter Try.func178, Try.ntmps178
    go_wp2
    refine wp_region_xall (F := fun _ _ _ => True) (by kernel_rfl) (by kernel_rfl) (by kernel_rfl) ?_
    intro wf hwf
    repeat (first
      | (refine x_skip rfl ?_; simp only [Act.put, ev_tmp, List.setIfInBounds_toArray, List.set_cons_succ, List.set_cons_zero, List.getD_cons_succ, List.getD_cons_zero])
      | (refine x_mv rfl rfl rfl ?_; simp only [Act.put, ev_tmp, List.setIfInBounds_toArray, List.set_cons_succ, List.set_cons_zero, List.getD_cons_succ, List.getD_cons_zero])
      | (refine x_as rfl rfl rfl ?_; simp only [Act.put, ev_tmp, List.setIfInBounds_toArray, List.set_cons_succ, List.set_cons_zero, List.getD_cons_succ, List.getD_cons_zero])
      | (refine x_run rfl fun K hK w1 hw1 => ?_; have k0 := hw1.cell (d1); have k1 := hw1.cell (d2); go_simp; refine hK _ ?_; clear hK K k0 k1 hw1 w1))
    refine x_nil ?_
    go_wp2
    go_ret2
    exact ⟨rfl, (Ext.drew _).trans hwf⟩
  by_cases hk2 : k = 2
  · subst hk2
    have hw : wCnt 2 i o = i := rfl
    have hb : bCnt 2 i o = 0 := rfl
    rw [hw, hb]
    go_enter Try.func178, Try.ntmps178
    go_wp2
    go_ret2
    exact ⟨rfl, Ext.refl _⟩
  by_cases hk5 : k = 5
  · subst hk5
    have hw : wCnt 5 i o = i := rfl
    have hb : bCnt 5 i o = i := rfl
    rw [hw, hb]
    have d1 := (Ext.drew w).cell f1
    clear hw hb
    go_enter Try.func178, Try.ntmps178
    go_wp2
    refine wp_region_xall (F := fun _ _ _ => True) (by kernel_rfl) (by kernel_rfl) (by kernel_rfl) ?_
    intro wf hwf
    repeat (first
      | (refine x_skip rfl ?_; simp only [Act.put, ev_tmp, List.setIfInBounds_toArray, List.set_cons_succ, List.set_cons_zero, List.getD_cons_succ, List.getD_cons_zero])
      | (refine x_mv rfl rfl rfl ?_; simp only [Act.put, ev_tmp, List.setIfInBounds_toArray, List.set_cons_succ, List.set_cons_zero, List.getD_cons_succ, List.getD_cons_zero])
      | (refine x_as rfl rfl rfl ?_; simp only [Act.put, ev_tmp, List.setIfInBounds_toArray, List.set_cons_succ, List.set_cons_zero, List.getD_cons_succ, List.getD_cons_zero])
      | (refine x_run rfl fun K hK w1 hw1 => ?_; have k0 := hw1.cell (d1); go_simp; refine hK _ ?_; clear hK K k0 hw1 w1))
    refine x_nil ?_
    go_wp2
    go_ret2
    exact ⟨rfl, (Ext.drew _).trans hwf⟩
  have F0 := beq_f hk0
  have F2 := beq_f hk2
  have F5 := beq_f hk5
  have hw : wCnt k i o = 0 := by unfold wCnt; rw [if_neg hk0, if_neg hk2, if_neg hk5]
  have hb : bCnt k i o = 0 := by unfold bCnt; rw [if_neg hk0, if_neg hk2, if_neg hk5]
  rw [hw, hb]
  clear hk0 hk2 hk5 hw hb
  go_enter Try.func178, Try.ntmps178
  go_wp2
  go_ret2
  exact ⟨rfl, Ext.refl _⟩

set_option maxRecDepth 100000 in
set_option maxHeartbeats 1000000 in
theorem l03Layer_any {sp : Option Nat} (bl o' : Nat) (k i o : Int) (pw pb : Option Addr) (nw cw nb cb : Nat) (w : World)
    (f0 : w.cell? ⟨bl, o', sp⟩ = some (.int .i64 k)) (f1 : w.cell? ⟨bl, o' + 1, none⟩ = some (.int .i64 i)) (f2 : w.cell? ⟨bl, o' + 2, none⟩ = some (.int .i64 o))
    (f3 : w.cell? ⟨bl, o' + 3, none⟩ = some (.slice pw nw cw)) (f4 : w.cell? ⟨bl, o' + 4, none⟩ = some (.slice pb nb cb)) (h1 : nw ≤ maxLen) (h2 : nb ≤ maxLen) :
    Calls Try.prog 127 #[.pointer (some ⟨bl, o', sp⟩)] w (RetB w (layB k i o nw nb)) := by
  unfold maxLen at h1 h2
  generalize hB : layB k i o nw nb = B
  have HB := hid hB
  clear hB
  unfold layB at HB
  cases k1 : inB k 0 5
  · have K1 := hid k1
    have : B = false := by rw [← HB.out, k1]; rfl
    subst this
    clear k1
    go_enter Try.func127, Try.ntmps127
    go_wp2_with (go_at_call 177; refine (l00In_any _ _ _ _).mono ?_; rintro e w1 ⟨rfl, rfl⟩; first | rw [K1.out])
    go_ret
    exact ⟨rfl, Ext.refl _⟩
  cases k2 : inB i 1 8
  · have K1 := hid k1
    have K2 := hid k2
    have : B = false := by rw [← HB.out, k1, k2]; rfl
    subst this
    clear k1 k2
    go_enter Try.func127, Try.ntmps127
    go_wp2_with (go_at_call 177; refine (l00In_any _ _ _ _).mono ?_; rintro e w1 ⟨rfl, rfl⟩; first | rw [K1.out] | rw [K2.out])
    go_ret
    exact ⟨rfl, Ext.refl _⟩
  cases k3 : inB o 1 8
  · have K1 := hid k1
    have K2 := hid k2
    have K3 := hid k3
    have : B = false := by rw [← HB.out, k1, k2, k3]; rfl
    subst this
    clear k1 k2 k3
    go_enter Try.func127, Try.ntmps127
    go_wp2_with (go_at_call 177; refine (l00In_any _ _ _ _).mono ?_; rintro e w1 ⟨rfl, rfl⟩; first | rw [K1.out] | rw [K2.out] | rw [K3.out])
    go_ret
    exact ⟨rfl, Ext.refl _⟩
  have K1 := hid k1
  have K2 := hid k2
  have K3 := hid k3
  rw [inB_true] at k1 k2 k3
  have hB2 : B = ((decide (k = 0) || decide (i = o)) && (decide ((nw : Int) = wCnt k i o) && decide ((nb : Int) = bCnt k i o))) := by rw [← HB.out, K1.out, K2.out, K3.out]; rfl
  clear HB
  have C := hid (fun w' (h : Ext w w') => l03Counts_any bl o' k i o w' (h.cell f0) (h.cell f1) (h.cell f2) k2 k3)
  generalize wCnt k i o = W at *
  generalize bCnt k i o = V at *
  have key : ∀ (q : Bool), q = (decide (k = 0) || decide (i = o)) → True := fun _ _ => trivial
  clear key
  by_cases hk0 : k = 0
  · subst hk0
    by_cases e1 : (nw : Int) = W
    · by_cases e2 : (nb : Int) = V
      all_goals
        have E1 := beq_t e1
        first | have E2 := beq_t e2 | have E2 := beq_f e2
        simp only [decide_true, e1, e2, decide_true, decide_false, Bool.true_or, Bool.or_true, Bool.true_and, Bool.and_true, Bool.and_false] at hB2
        subst hB2
        clear e1 e2 
        go_enter Try.func127, Try.ntmps127
        go_wp2_with (go_at_call 177; refine (l00In_any _ _ _ _).mono ?_; rintro e w1 ⟨rfl, rfl⟩; first | rw [K1.out] | rw [K2.out] | rw [K3.out])
        refine (C.out _ (Ext.refl _)).mono ?_
        rintro e w1 ⟨rfl, e1⟩
        have x := e1.trans (Ext.drew w1)
        have d0 := x.cell f0
        have d1 := x.cell f1
        have d2 := x.cell f2
        have d3 := x.cell f3
        have d4 := x.cell f4
        go_wp2
        refine wp_region_xall (F := fun _ _ _ => True) (by kernel_rfl) (by kernel_rfl) (by kernel_rfl) ?_
        intro wf hwf
        repeat (first
          | (refine x_skip rfl ?_; simp only [Act.put, ev_tmp, List.setIfInBounds_toArray, List.set_cons_succ, List.set_cons_zero, List.getD_cons_succ, List.getD_cons_zero])
          | (refine x_mv rfl rfl rfl ?_; simp only [Act.put, ev_tmp, List.setIfInBounds_toArray, List.set_cons_succ, List.set_cons_zero, List.getD_cons_succ, List.getD_cons_zero])
          | (refine x_as rfl rfl rfl ?_; simp only [Act.put, ev_tmp, List.setIfInBounds_toArray, List.set_cons_succ, List.set_cons_zero, List.getD_cons_succ, List.getD_cons_zero])
          | (refine x_run rfl fun K hK w1 hw1 => ?_; have k0 := hw1.cell (d0); have k1 := hw1.cell (d1); have k2 := hw1.cell (d2); have k3 := hw1.cell (d3); have k4 := hw1.cell (d4); go_simp; refine hK _ ?_; clear hK K k0 k1 k2 k3 k4 hw1 w1))
        refine x_nil ?_
        go_wp2
        go_ret
        exact ⟨rfl, x.trans hwf⟩
    · have E1 := beq_f e1
      simp only [decide_true, e1, decide_true, decide_false, Bool.true_or, Bool.or_true, Bool.true_and, Bool.false_and, Bool.and_false] at hB2
      subst hB2
      clear e1 
      go_enter Try.func127, Try.ntmps127
      go_wp2_with (go_at_call 177; refine (l00In_any _ _ _ _).mono ?_; rintro e w1 ⟨rfl, rfl⟩; first | rw [K1.out] | rw [K2.out] | rw [K3.out])
      refine (C.out _ (Ext.refl _)).mono ?_
      rintro e w1 ⟨rfl, e1⟩
      have x := e1.trans (Ext.drew w1)
      have d0 := x.cell f0
      have d1 := x.cell f1
      have d2 := x.cell f2
      have d3 := x.cell f3
      have d4 := x.cell f4
      go_wp2
      refine wp_region_xall (F := fun _ _ _ => True) (by kernel_rfl) (by kernel_rfl) (by kernel_rfl) ?_
      intro wf hwf
      repeat (first
        | (refine x_skip rfl ?_; simp only [Act.put, ev_tmp, List.setIfInBounds_toArray, List.set_cons_succ, List.set_cons_zero, List.getD_cons_succ, List.getD_cons_zero])
        | (refine x_mv rfl rfl rfl ?_; simp only [Act.put, ev_tmp, List.setIfInBounds_toArray, List.set_cons_succ, List.set_cons_zero, List.getD_cons_succ, List.getD_cons_zero])
        | (refine x_as rfl rfl rfl ?_; simp only [Act.put, ev_tmp, List.setIfInBounds_toArray, List.set_cons_succ, List.set_cons_zero, List.getD_cons_succ, List.getD_cons_zero])
        | (refine x_run rfl fun K hK w1 hw1 => ?_; have k0 := hw1.cell (d0); have k1 := hw1.cell (d1); have k2 := hw1.cell (d2); have k3 := hw1.cell (d3); have k4 := hw1.cell (d4); go_simp; refine hK _ ?_; clear hK K k0 k1 k2 k3 k4 hw1 w1))
      refine x_nil ?_
      go_wp2
      go_ret
      exact ⟨rfl, x.trans hwf⟩
  have F0 := beq_f hk0
  by_cases hio : ¬ i = o
  · have F1 := beq_f hio
    have : B = false := by rw [hB2]; simp [hk0, hio]
    subst this
    clear hk0 hio hB2
    go_enter Try.func127, Try.ntmps127
    go_wp2_with (go_at_call 177; refine (l00In_any _ _ _ _).mono ?_; rintro e w1 ⟨rfl, rfl⟩; first | rw [K1.out] | rw [K2.out] | rw [K3.out])
    refine (C.out _ (Ext.refl _)).mono ?_
    rintro e w1 ⟨rfl, e1⟩
    have x := e1.trans (Ext.drew w1)
    have d0 := x.cell f0
    have d1 := x.cell f1
    have d2 := x.cell f2
    have d3 := x.cell f3
    have d4 := x.cell f4
    go_wp2
    refine wp_region_xall (F := fun _ _ _ => True) (by kernel_rfl) (by kernel_rfl) (by kernel_rfl) ?_
    intro wf hwf
    repeat (first
      | (refine x_skip rfl ?_; simp only [Act.put, ev_tmp, List.setIfInBounds_toArray, List.set_cons_succ, List.set_cons_zero, List.getD_cons_succ, List.getD_cons_zero])
      | (refine x_mv rfl rfl rfl ?_; simp only [Act.put, ev_tmp, List.setIfInBounds_toArray, List.set_cons_succ, List.set_cons_zero, List.getD_cons_succ, List.getD_cons_zero])
      | (refine x_as rfl rfl rfl ?_; simp only [Act.put, ev_tmp, List.setIfInBounds_toArray, List.set_cons_succ, List.set_cons_zero, List.getD_cons_succ, List.getD_cons_zero])
      | (refine x_run rfl fun K hK w1 hw1 => ?_; have k0 := hw1.cell (d0); have k1 := hw1.cell (d1); have k2 := hw1.cell (d2); have k3 := hw1.cell (d3); have k4 := hw1.cell (d4); go_simp; refine hK _ ?_; clear hK K k0 k1 k2 k3 k4 hw1 w1))
    refine x_nil ?_
    go_wp2
    go_ret
    exact ⟨rfl, x.trans hwf⟩
  have hio := Classical.not_not.1 hio
  have F1 := beq_t hio
  by_cases e1 : (nw : Int) = W
  · by_cases e2 : (nb : Int) = V
    all_goals
      have E1 := beq_t e1
      first | have E2 := beq_t e2 | have E2 := beq_f e2
      simp only [hio, e1, e2, decide_true, decide_false, Bool.true_or, Bool.or_true, Bool.true_and, Bool.and_true, Bool.and_false] at hB2
      subst hB2
      clear e1 e2 hio hk0
      go_enter Try.func127, Try.ntmps127
      go_wp2_with (go_at_call 177; refine (l00In_any _ _ _ _).mono ?_; rintro e w1 ⟨rfl, rfl⟩; first | rw [K1.out] | rw [K2.out] | rw [K3.out])
      refine (C.out _ (Ext.refl _)).mono ?_
      rintro e w1 ⟨rfl, e1⟩
      have x := e1.trans (Ext.drew w1)
      have d0 := x.cell f0
      have d1 := x.cell f1
      have d2 := x.cell f2
      have d3 := x.cell f3
      have d4 := x.cell f4
      go_wp2
      refine wp_region_xall (F := fun _ _ _ => True) (by kernel_rfl) (by kernel_rfl) (by kernel_rfl) ?_
      intro wf hwf
      repeat (first
        | (refine x_skip rfl ?_; simp only [Act.put, ev_tmp, List.setIfInBounds_toArray, List.set_cons_succ, List.set_cons_zero, List.getD_cons_succ, List.getD_cons_zero])
        | (refine x_mv rfl rfl rfl ?_; simp only [Act.put, ev_tmp, List.setIfInBounds_toArray, List.set_cons_succ, List.set_cons_zero, List.getD_cons_succ, List.getD_cons_zero])
        | (refine x_as rfl rfl rfl ?_; simp only [Act.put, ev_tmp, List.setIfInBounds_toArray, List.set_cons_succ, List.set_cons_zero, List.getD_cons_succ, List.getD_cons_zero])
        | (refine x_run rfl fun K hK w1 hw1 => ?_; have k0 := hw1.cell (d0); have k1 := hw1.cell (d1); have k2 := hw1.cell (d2); have k3 := hw1.cell (d3); have k4 := hw1.cell (d4); go_simp; refine hK _ ?_; clear hK K k0 k1 k2 k3 k4 hw1 w1))
      refine x_nil ?_
      go_wp2
      go_ret
      exact ⟨rfl, x.trans hwf⟩
  · have E1 := beq_f e1
    simp only [hio, e1, decide_true, decide_false, Bool.true_or, Bool.or_true, Bool.true_and, Bool.false_and, Bool.and_false] at hB2
    subst hB2
    clear e1 hio hk0
    go_enter Try.func127, Try.ntmps127
    go_wp2_with (go_at_call 177; refine (l00In_any _ _ _ _).mono ?_; rintro e w1 ⟨rfl, rfl⟩; first | rw [K1.out] | rw [K2.out] | rw [K3.out])
    refine (C.out _ (Ext.refl _)).mono ?_
    rintro e w1 ⟨rfl, e1⟩
    have x := e1.trans (Ext.drew w1)
    have d0 := x.cell f0
    have d1 := x.cell f1
    have d2 := x.cell f2
    have d3 := x.cell f3
    have d4 := x.cell f4
    go_wp2
    refine wp_region_xall (F := fun _ _ _ => True) (by kernel_rfl) (by kernel_rfl) (by kernel_rfl) ?_
    intro wf hwf
    repeat (first
      | (refine x_skip rfl ?_; simp only [Act.put, ev_tmp, List.setIfInBounds_toArray, List.set_cons_succ, List.set_cons_zero, List.getD_cons_succ, List.getD_cons_zero])
      | (refine x_mv rfl rfl rfl ?_; simp only [Act.put, ev_tmp, List.setIfInBounds_toArray, List.set_cons_succ, List.set_cons_zero, List.getD_cons_succ, List.getD_cons_zero])
      | (refine x_as rfl rfl rfl ?_; simp only [Act.put, ev_tmp, List.setIfInBounds_toArray, List.set_cons_succ, List.set_cons_zero, List.getD_cons_succ, List.getD_cons_zero])
      | (refine x_run rfl fun K hK w1 hw1 => ?_; have k0 := hw1.cell (d0); have k1 := hw1.cell (d1); have k2 := hw1.cell (d2); have k3 := hw1.cell (d3); have k4 := hw1.cell (d4); go_simp; refine hK _ ?_; clear hK K k0 k1 k2 k3 k4 hw1 w1))
    refine x_nil ?_
    go_wp2
    go_ret
    exact ⟨rfl, x.trans hwf⟩
end Go.Proofs.Ytlimabbeaimdgaa
/- Models: which are valid. -/
namespace Go.Proofs.Ytlimabbeaimdgaa
set_option linter.unusedSimpArgs false
set_option linter.unusedVariables false
open Go.RowKit

def layD (d : shLayer.T) : Bool := layB d.1 d.2.1 d.2.2.1 d.2.2.2.1.length d.2.2.2.2.1.length
def layO (d : shLayer.T) : Int := d.2.2.1
def linkL : Option Int → Int → Bool
  | none, _ => true
  | some o, i => decide (i = o)
def modGo : Option Int → List shLayer.T → Bool
  | _, [] => true
  | p, d :: l => layD d && (linkL p d.2.1 && modGo (some (layO d)) l)
def modB (l : List shLayer.T) : Bool := decide (1 ≤ l.length) && (decide (l.length ≤ 6) && modGo none l)
/-- What comes out of the step before. -/
def prevL (l : List shLayer.T) : Nat → Option Int
  | 0 => none
  | i + 1 => l[i]?.map layO
theorem modGo_at {l : List shLayer.T} {i : Nat} (hi : i < l.length) (p : Option Int) :
    modGo p (l.drop i) = (layD l[i] && (linkL p l[i].2.1 && modGo (prevL l (i + 1)) (l.drop (i + 1)))) := by
  rw [List.drop_eq_getElem_cons hi]
  simp [modGo, prevL, hi]

/-- The cells of a layer, one by one. -/
theorem lay_vals {w : World} {cs : List Value} {d : shLayer.T} (h : Rep w shLayer cs d) : ∃ pw cw pb cb, cs = [.int .i64 d.1, .int .i64 d.2.1, .int .i64 d.2.2.1, .slice pw d.2.2.2.1.length cw, .slice pb d.2.2.2.2.1.length cb] ∧ d.2.2.2.1.length ≤ maxLen ∧ d.2.2.2.2.1.length ≤ maxLen := by
  obtain ⟨a1, a2, a3, a4, a5, au⟩ := d
  obtain ⟨_, _, rfl, rfl, _, _, rfl, rfl, _, _, rfl, rfl, _, _, rfl, h4, _, _, rfl, h5, rfl⟩ := h
  obtain ⟨p4, c4, rfl, l4⟩ := rep_val h4
  obtain ⟨p5, c5, rfl, l5⟩ := rep_val h5
  exact ⟨p4, c4, p5, c5, rfl, l4, l5⟩

set_option maxRecDepth 100000 in
set_option maxHeartbeats 4000000 in
theorem l03Is_any {sp : Option Nat} (bl o' : Nat) (p : Option Addr) (n c : Nat) (l : List shLayer.T) (css : List (List Value)) (w : World) (f0 : w.cell? ⟨bl, o', sp⟩ = some (.slice p n c)) (hn : l.length = n) (hm : n ≤ maxLen)
    (a2 : Cs w p css.flatten) (a5 : All2 (Rep w shLayer) css l) (a6 : ∀ c ∈ css, c.length = shLayer.sz) (a7 : css.length = n) :
    Calls Try.prog 68 #[.pointer (some ⟨bl, o', sp⟩)] w (RetB w (modB l)) := by
  unfold maxLen at hm
  unfold modB
  rw [hn]
  by_cases hn1 : 1 ≤ n
  rotate_left 1
  · rw [decide_eq_false hn1, Bool.false_and]
    clear a2 a5 a6 a7 hn
    go_enter Try.func68, Try.ntmps68
    go_wp2
    go_ret
    exact ⟨rfl, Ext.refl _⟩
  by_cases hn6 : n ≤ 6
  rotate_left 1
  · rw [decide_eq_false hn6, Bool.false_and, Bool.and_false]
    clear a2 a5 a6 a7 hn
    go_enter Try.func68, Try.ntmps68
    go_wp2
    go_ret
    exact ⟨rfl, Ext.refl _⟩
  rw [decide_eq_true hn1, decide_eq_true hn6, Bool.true_and, Bool.true_and]
  generalize hG : modGo none l = G
  have HG := hid hG
  have HL := hid hn
  clear hG
  go_enter Try.func68, Try.ntmps68
  go_wp2
  go_loopw [4] (fun iv wr => ∃ (i : Nat), i ≤ n ∧ iv = .int .i64 i ∧ Hid (modGo (prevL l i) (l.drop i) = G) ∧ Ext w wr) (fun iv _ => n - (intOf iv).toNat)
  case atStart => exact ⟨0, by omega, rfl, by simpa [Hid, prevL] using HG.out, Ext.refl w⟩
  case round =>
    obtain ⟨i, hi, rfl, HI, he⟩ := hrel
    have g0 := he.cell f0
    by_cases hlt : i < n
    · have hil : i < l.length := by rw [HL.out]; exact hlt
      obtain ⟨ci, hci, ri⟩ := a5.get i l[i] (by simp)
      obtain ⟨pw, cw, pb, cb, rfl, l1, l2⟩ := lay_vals ri
      have hst := HI.out
      rw [modGo_at hil] at hst
      have hs1 := a2.some_of a6 (by decide) (show 0 < css.length by omega)
      have hp := a2.ext he
      have C := hid (fun w1 (hw1 : Ext wr w1) => calls_retB (l03Layer_any (sp := (adr p (i * 5)).spot) (adr p (i * 5)).block (adr p (i * 5)).off _ _ _ pw pb _ cw _ cb w1 (fcell hp a6 a7 hlt hci 0 hw1 rfl) (fcell hp a6 a7 hlt hci 1 hw1 rfl) (fcell hp a6 a7 hlt hci 2 hw1 rfl) (fcell hp a6 a7 hlt hci 3 hw1 rfl) (fcell hp a6 a7 hlt hci 4 hw1 rfl) l1 l2))
      generalize hD : l[i] = d at *
      have HD := hid hD
      clear hD
      cases hb : layD d
      · have hG : G = false := by rw [← hst, hb]; rfl
        subst hG
        unfold layD at hb
        rw [hb] at C
        clear hb hst
        obtain ⟨F, hF⟩ : ∃ F : Option Tmp → World → Value → Prop, F = fun _ _ u => u = .bool false := ⟨_, rfl⟩
        have HF := hid hF
        have gd := (Ext.drew wr).cell g0
        have hpd := hp.ext (Ext.drew wr)
        clear hF
        go_wp2
        refine wp_region_xall (F := F) (by kernel_rfl) (by kernel_rfl) (by kernel_rfl) ?_
        intro wf hwf
        repeat (first
          | (refine x_skip rfl ?_; simp only [Act.put, ev_tmp, List.setIfInBounds_toArray, List.set_cons_succ, List.set_cons_zero, List.getD_cons_succ, List.getD_cons_zero])
          | (refine x_mv rfl rfl rfl ?_; simp only [Act.put, ev_tmp, List.setIfInBounds_toArray, List.set_cons_succ, List.set_cons_zero, List.getD_cons_succ, List.getD_cons_zero])
          | (refine x_as rfl rfl rfl ?_; simp only [Act.put, ev_tmp, List.setIfInBounds_toArray, List.set_cons_succ, List.set_cons_zero, List.getD_cons_succ, List.getD_cons_zero])
          | ((with_reducible show wpX _ _ _ _ _ _ (Oper.mk _ (Op.indexAddr _ _ _) _ _ _ _ :: _) _); refine x_idx (t := 31) (s := 5) (i := (i : Int)) rfl rfl rfl rfl hs1 (by omega) (by omega) ?_; rw [Int.toNat_natCast]; simp only [Act.put, ev_tmp, List.setIfInBounds_toArray, List.set_cons_succ, List.set_cons_zero, List.getD_cons_succ, List.getD_cons_zero])
          | ((with_reducible show wpX _ _ _ _ _ _ (Oper.mk _ (Op.call _) _ _ _ _ :: _) _); refine x_callf (f := 127) (args := #[.pointer (some (adr p (i * 5)))]) rfl rfl Try.func127 rfl (by kernel_rfl) ?_ ?_ ?_; (focus (simp [Act.eval]; done)); (focus (intro w1 hw1; exact (by rw [HF.out]; exact C.out w1 (((Ext.drew _).trans hw1))))); rintro u w3 e3 e4 hu; simp only [HF.out] at hu; subst hu; simp only [Act.put, ev_tmp, List.setIfInBounds_toArray, List.set_cons_succ, List.set_cons_zero, List.getD_cons_succ, List.getD_cons_zero])
          | (refine x_run rfl fun K hK w1 hw1 => ?_; have k0 := hw1.cell (gd); go_simp; refine hK _ ?_; clear hK K k0 hw1 w1))
        refine x_nil ?_
        go_wp2
        go_ret
        exact ⟨rfl, (he.trans (Ext.drew _)).trans hwf⟩
      have hb2 := hb
      unfold layD at hb2
      rw [hb2] at C
      rw [hb, Bool.true_and] at hst
      clear hb hb2
      rcases Nat.eq_zero_or_pos i with h0 | h0
      · subst h0
        have hst2 : modGo (prevL l 1) (l.drop 1) = G := by rw [← hst]; simp [linkL, prevL]
        have Hst := hid hst2
        clear hst hst2
        obtain ⟨F, hF⟩ : ∃ F : Option Tmp → World → Value → Prop, F = fun _ _ u => u = .bool true := ⟨_, rfl⟩
        have HF := hid hF
        have gd := (Ext.drew wr).cell g0
        have hpd := hp.ext (Ext.drew wr)
        clear hF
        go_wp2
        refine wp_region_xall (F := F) (by kernel_rfl) (by kernel_rfl) (by kernel_rfl) ?_
        intro wf hwf
        repeat (first
          | (refine x_skip rfl ?_; simp only [Act.put, ev_tmp, List.setIfInBounds_toArray, List.set_cons_succ, List.set_cons_zero, List.getD_cons_succ, List.getD_cons_zero])
          | (refine x_mv rfl rfl rfl ?_; simp only [Act.put, ev_tmp, List.setIfInBounds_toArray, List.set_cons_succ, List.set_cons_zero, List.getD_cons_succ, List.getD_cons_zero])
          | (refine x_as rfl rfl rfl ?_; simp only [Act.put, ev_tmp, List.setIfInBounds_toArray, List.set_cons_succ, List.set_cons_zero, List.getD_cons_succ, List.getD_cons_zero])
          | ((with_reducible show wpX _ _ _ _ _ _ (Oper.mk _ (Op.indexAddr _ _ _) _ _ _ _ :: _) _); refine x_idx (t := 31) (s := 5) (i := ((0 : Nat) : Int)) rfl rfl rfl rfl hs1 (by omega) (by omega) ?_; rw [Int.toNat_natCast]; simp only [Act.put, ev_tmp, List.setIfInBounds_toArray, List.set_cons_succ, List.set_cons_zero, List.getD_cons_succ, List.getD_cons_zero])
          | ((with_reducible show wpX _ _ _ _ _ _ (Oper.mk _ (Op.call _) _ _ _ _ :: _) _); refine x_callf (f := 127) (args := #[.pointer (some (adr p (0 * 5)))]) rfl rfl Try.func127 rfl (by kernel_rfl) ?_ ?_ ?_; (focus (simp [Act.eval]; done)); (focus (intro w1 hw1; exact (by rw [HF.out]; exact C.out w1 (((Ext.drew _).trans hw1))))); rintro u w3 e3 e4 hu; simp only [HF.out] at hu; subst hu; simp only [Act.put, ev_tmp, List.setIfInBounds_toArray, List.set_cons_succ, List.set_cons_zero, List.getD_cons_succ, List.getD_cons_zero])
          | (refine x_run rfl fun K hK w1 hw1 => ?_; have k0 := hw1.cell (gd); go_simp; refine hK _ ?_; clear hK K k0 hw1 w1))
        refine x_nil ?_
        go_wp2
        go_roundw
        case rel => exact ⟨1, by omega, by go_num, Hst.out, (he.trans (Ext.drew _)).trans hwf⟩
        case measure => simp [intOf]; omega
      · obtain ⟨j, rfl⟩ : ∃ j, i = j + 1 := ⟨i - 1, by omega⟩
        obtain ⟨cj, hcj, rj⟩ := a5.get j l[j] (by simp)
        obtain ⟨qw, dw, qb, db, rfl, _, _⟩ := lay_vals rj
        have hlk : linkL (prevL l (j + 1)) d.2.1 = decide (d.2.1 = layO l[j]) := by simp [prevL, linkL, show j < l.length by omega]
        rw [hlk] at hst
        have hA : IntKind.i64.wrap (((j + 1 : Nat) : Int) - 1) = (j : Int) := by rw [show ((j + 1 : Nat) : Int) - 1 = (j : Int) by omega]; exact wrap_in _ (by omega) (by omega)
        have hB : IntKind.i64.wrap ((j : Int) + 1 - 1) = (j : Int) := by rw [show (j : Int) + 1 - 1 = (j : Int) by omega]; exact wrap_in _ (by omega) (by omega)
        have hC : IntKind.i64.wrap (j : Int) = (j : Int) := wrap_in _ (by omega) (by omega)
        clear hlk
        by_cases hq : d.2.1 = layO l[j]
        · have hst2 : modGo (prevL l (j + 1 + 1)) (l.drop (j + 1 + 1)) = G := by rw [← hst]; simp [hq]
          have Hst := hid hst2
          have Q := bne_f hq.symm
          unfold layO at Q
          clear hst hst2 hq
          obtain ⟨F, hF⟩ : ∃ F : Option Tmp → World → Value → Prop, F = fun _ _ u => u = .bool true := ⟨_, rfl⟩
          have HF := hid hF
          have gd := (Ext.drew wr).cell g0
          have hpd := hp.ext (Ext.drew wr)
          clear hF
          go_wp2
          refine wp_region_xall (F := F) (by kernel_rfl) (by kernel_rfl) (by kernel_rfl) ?_
          intro wf hwf
          repeat (first
            | (refine x_skip rfl ?_; simp only [Act.put, ev_tmp, List.setIfInBounds_toArray, List.set_cons_succ, List.set_cons_zero, List.getD_cons_succ, List.getD_cons_zero])
            | (refine x_mv rfl rfl rfl ?_; simp only [Act.put, ev_tmp, List.setIfInBounds_toArray, List.set_cons_succ, List.set_cons_zero, List.getD_cons_succ, List.getD_cons_zero])
            | (refine x_as rfl rfl rfl ?_; simp only [Act.put, ev_tmp, List.setIfInBounds_toArray, List.set_cons_succ, List.set_cons_zero, List.getD_cons_succ, List.getD_cons_zero])
            | ((with_reducible show wpX _ _ _ _ _ _ (Oper.mk _ (Op.indexAddr _ _ _) _ _ _ _ :: Oper.mk _ (Op.fieldAddr _ _ _) _ _ _ _ :: Oper.mk _ (Op.load _ _) _ _ _ _ :: _) _); refine x_ldField (f := 2) (j := j) (off := 2) rfl rfl (fun _ => rfl) rfl (fun _ _ => rfl) rfl (fun _ => rfl) (fun _ _ => rfl) fo_implLayer_2 rfl rfl (by omega) hpd a6 a7 (by omega) hs1 hcj rfl ?_; simp only [Act.put, ev_tmp, List.setIfInBounds_toArray, List.set_cons_succ, List.set_cons_zero, List.getD_cons_succ, List.getD_cons_zero])
            | ((with_reducible show wpX _ _ _ _ _ _ (Oper.mk _ (Op.indexAddr _ _ _) _ _ _ _ :: Oper.mk _ (Op.fieldAddr _ _ _) _ _ _ _ :: Oper.mk _ (Op.load _ _) _ _ _ _ :: _) _); refine x_ldField (f := 1) (j := (j + 1)) (off := 1) rfl rfl (fun _ => rfl) rfl (fun _ _ => rfl) rfl (fun _ => rfl) (fun _ _ => rfl) fo_implLayer_1 rfl rfl (by omega) hpd a6 a7 hlt hs1 hci rfl ?_; simp only [Act.put, ev_tmp, List.setIfInBounds_toArray, List.set_cons_succ, List.set_cons_zero, List.getD_cons_succ, List.getD_cons_zero])
            | ((with_reducible show wpX _ _ _ _ _ _ (Oper.mk _ (Op.indexAddr _ _ _) _ _ _ _ :: _) _); refine x_idx (t := 31) (s := 5) (i := ((j + 1 : Nat) : Int)) rfl rfl rfl rfl hs1 (by omega) (by omega) ?_; rw [Int.toNat_natCast]; simp only [Act.put, ev_tmp, List.setIfInBounds_toArray, List.set_cons_succ, List.set_cons_zero, List.getD_cons_succ, List.getD_cons_zero])
            | ((with_reducible show wpX _ _ _ _ _ _ (Oper.mk _ (Op.call _) _ _ _ _ :: _) _); refine x_callf (f := 127) (args := #[.pointer (some (adr p ((j + 1) * 5)))]) rfl rfl Try.func127 rfl (by kernel_rfl) ?_ ?_ ?_; (focus (simp [Act.eval]; done)); (focus (intro w1 hw1; exact (by rw [HF.out]; exact C.out w1 (((Ext.drew _).trans hw1))))); rintro u w3 e3 e4 hu; simp only [HF.out] at hu; subst hu; simp only [Act.put, ev_tmp, List.setIfInBounds_toArray, List.set_cons_succ, List.set_cons_zero, List.getD_cons_succ, List.getD_cons_zero])
            | (refine x_run rfl fun K hK w1 hw1 => ?_; have k0 := hw1.cell (gd); go_simp; refine hK _ ?_; clear hK K k0 hw1 w1))
          refine x_nil ?_
          go_wp2
          go_roundw
          case rel => exact ⟨j + 1 + 1, by omega, by go_num, Hst.out, (he.trans (Ext.drew _)).trans hwf⟩
          case measure => simp [intOf]; omega
        · have hG : G = false := by rw [← hst]; simp [hq]
          subst hG
          have Q := bne_t (fun h => hq h.symm)
          unfold layO at Q
          clear hst hq
          obtain ⟨F, hF⟩ : ∃ F : Option Tmp → World → Value → Prop, F = fun _ _ u => u = .bool true := ⟨_, rfl⟩
          have HF := hid hF
          have gd := (Ext.drew wr).cell g0
          have hpd := hp.ext (Ext.drew wr)
          clear hF
          go_wp2
          refine wp_region_xall (F := F) (by kernel_rfl) (by kernel_rfl) (by kernel_rfl) ?_
          intro wf hwf
          repeat (first
            | (refine x_skip rfl ?_; simp only [Act.put, ev_tmp, List.setIfInBounds_toArray, List.set_cons_succ, List.set_cons_zero, List.getD_cons_succ, List.getD_cons_zero])
            | (refine x_mv rfl rfl rfl ?_; simp only [Act.put, ev_tmp, List.setIfInBounds_toArray, List.set_cons_succ, List.set_cons_zero, List.getD_cons_succ, List.getD_cons_zero])
            | (refine x_as rfl rfl rfl ?_; simp only [Act.put, ev_tmp, List.setIfInBounds_toArray, List.set_cons_succ, List.set_cons_zero, List.getD_cons_succ, List.getD_cons_zero])
            | ((with_reducible show wpX _ _ _ _ _ _ (Oper.mk _ (Op.indexAddr _ _ _) _ _ _ _ :: Oper.mk _ (Op.fieldAddr _ _ _) _ _ _ _ :: Oper.mk _ (Op.load _ _) _ _ _ _ :: _) _); refine x_ldField (f := 2) (j := j) (off := 2) rfl rfl (fun _ => rfl) rfl (fun _ _ => rfl) rfl (fun _ => rfl) (fun _ _ => rfl) fo_implLayer_2 rfl rfl (by omega) hpd a6 a7 (by omega) hs1 hcj rfl ?_; simp only [Act.put, ev_tmp, List.setIfInBounds_toArray, List.set_cons_succ, List.set_cons_zero, List.getD_cons_succ, List.getD_cons_zero])
            | ((with_reducible show wpX _ _ _ _ _ _ (Oper.mk _ (Op.indexAddr _ _ _) _ _ _ _ :: Oper.mk _ (Op.fieldAddr _ _ _) _ _ _ _ :: Oper.mk _ (Op.load _ _) _ _ _ _ :: _) _); refine x_ldField (f := 1) (j := (j + 1)) (off := 1) rfl rfl (fun _ => rfl) rfl (fun _ _ => rfl) rfl (fun _ => rfl) (fun _ _ => rfl) fo_implLayer_1 rfl rfl (by omega) hpd a6 a7 hlt hs1 hci rfl ?_; simp only [Act.put, ev_tmp, List.setIfInBounds_toArray, List.set_cons_succ, List.set_cons_zero, List.getD_cons_succ, List.getD_cons_zero])
            | ((with_reducible show wpX _ _ _ _ _ _ (Oper.mk _ (Op.indexAddr _ _ _) _ _ _ _ :: _) _); refine x_idx (t := 31) (s := 5) (i := ((j + 1 : Nat) : Int)) rfl rfl rfl rfl hs1 (by omega) (by omega) ?_; rw [Int.toNat_natCast]; simp only [Act.put, ev_tmp, List.setIfInBounds_toArray, List.set_cons_succ, List.set_cons_zero, List.getD_cons_succ, List.getD_cons_zero])
            | ((with_reducible show wpX _ _ _ _ _ _ (Oper.mk _ (Op.call _) _ _ _ _ :: _) _); refine x_callf (f := 127) (args := #[.pointer (some (adr p ((j + 1) * 5)))]) rfl rfl Try.func127 rfl (by kernel_rfl) ?_ ?_ ?_; (focus (simp [Act.eval]; done)); (focus (intro w1 hw1; exact (by rw [HF.out]; exact C.out w1 (((Ext.drew _).trans hw1))))); rintro u w3 e3 e4 hu; simp only [HF.out] at hu; subst hu; simp only [Act.put, ev_tmp, List.setIfInBounds_toArray, List.set_cons_succ, List.set_cons_zero, List.getD_cons_succ, List.getD_cons_zero])
            | (refine x_run rfl fun K hK w1 hw1 => ?_; have k0 := hw1.cell (gd); go_simp; refine hK _ ?_; clear hK K k0 hw1 w1))
          refine x_nil ?_
          go_wp2
          go_ret
          exact ⟨rfl, (he.trans (Ext.drew _)).trans hwf⟩
    · obtain rfl : i = n := by omega
      have hst := HI.out
      rw [List.drop_of_length_le (by rw [HL.out]; exact Nat.le_refl _)] at hst
      have hst2 : G = true := by rw [← hst]; simp [modGo]
      subst hst2
      go_wp2
      go_ret
      exact ⟨rfl, he⟩
end Go.Proofs.Ytlimabbeaimdgaa
/- Models: which are valid, the program's part. -/
namespace Go.Proofs.Ytlimabbeaimdgaa
set_option linter.unusedSimpArgs false
set_option linter.unusedVariables false
open Go.RowKit

set_option maxRecDepth 100000 in
set_option maxHeartbeats 4000000 in
theorem ValidModel_any (p : Option Addr) (n c : Nat) (l : List shLayer.T) (css : List (List Value)) (w : World) (hn : l.length = n) (hm : n ≤ maxLen)
    (a2 : Cs w p css.flatten) (a5 : All2 (Rep w shLayer) css l) (a6 : ∀ c ∈ css, c.length = shLayer.sz) (a7 : css.length = n) :
    Calls Try.prog 52 #[.agg #[.slice p n c]] w (RetB w (modB l)) := by
  unfold maxLen at hm
  unfold modB
  generalize hG : modGo none l = G
  have HG := hid hG
  have HL := hid hn
  clear hG
  go_enter Try.func52, Try.ntmps52
  go_wp2
  go_loopw [8] (fun iv wr => ∃ (i : Nat), i ≤ n ∧ iv = .int .i64 i ∧ Hid (modGo (prevL l i) (l.drop i) = G) ∧ Ext w wr ∧ wr.cell? ⟨w.heap.size, 0, none⟩ = some (.slice p n c) ∧ w.heap.size < wr.heap.size) (fun iv _ => n - (intOf iv).toNat)
  case atStart => exact ⟨0, by omega, rfl, by simpa [Hid, prevL] using HG.out, Ext.alloc _ _, by simp, by simp⟩
  case round =>
    obtain ⟨i, hi, rfl, HI, he, g0, hsz⟩ := hrel
    by_cases hlt : i < n
    · have hil : i < l.length := by rw [HL.out]; exact hlt
      obtain ⟨ci, hci, ri⟩ := a5.get i l[i] (by simp)
      obtain ⟨pw, cw, pb, cb, rfl, l1, l2⟩ := lay_vals ri
      have hst := HI.out
      rw [modGo_at hil] at hst
      have hs1 := a2.some_of a6 (by decide) (show 0 < css.length by omega)
      have hp := a2.ext he
      generalize hD : l[i] = d at *
      have HD := hid hD
      clear hD
      have C := hid (fun w1 => calls_retB (ValidLayer_any d.1 d.2.1 d.2.2.1 pw pb _ cw _ cb w1 l1 l2))
      have hne : w.heap.size ≠ wr.heap.size := by omega
      cases hb : layD d
      · have hG : G = false := by rw [← hst, hb]; rfl
        subst hG
        unfold layD at hb
        rw [hb] at C
        clear hb hst
        go_wp2_with ((with_reducible show wpList _ _ _ (Oper.mk _ (Op.indexAddr _ _ _) _ _ _ _ :: Oper.mk _ (Op.load _ _) _ _ _ _ :: _) _ _); refine wl_idxloadE (s := shLayer) (j := i) rfl rfl rfl rfl (fun _ => rfl) rfl rfl rfl hp a6 a7 hlt hs1 hci ?_; simp only [ofCs, Sh.agg, if_true])
        have E1 := (Ext.alloc wr (.cells #[.int .i64 d.1, .int .i64 d.2.1, .int .i64 d.2.2.1, .slice pw (List.length d.2.2.2.1) cw, .slice pb (List.length d.2.2.2.2.1) cb] 65)).trans (Ext.drew _)
        have gd := E1.cell g0
        have hpd := hp.ext E1
        obtain ⟨F, hF⟩ : ∃ F : Option Tmp → World → Value → Prop, F = fun _ _ u => u = .bool false := ⟨_, rfl⟩
        have HF := hid hF
        clear hF
        refine wp_region_xall (F := F) (by kernel_rfl) (by kernel_rfl) (by kernel_rfl) ?_
        intro wf hwf
        repeat (first
          | (refine x_skip rfl ?_; simp only [Act.put, ev_tmp, List.setIfInBounds_toArray, List.set_cons_succ, List.set_cons_zero, List.getD_cons_succ, List.getD_cons_zero])
          | (refine x_mv rfl rfl rfl ?_; simp only [Act.put, ev_tmp, List.setIfInBounds_toArray, List.set_cons_succ, List.set_cons_zero, List.getD_cons_succ, List.getD_cons_zero])
          | (refine x_as rfl rfl rfl ?_; simp only [Act.put, ev_tmp, List.setIfInBounds_toArray, List.set_cons_succ, List.set_cons_zero, List.getD_cons_succ, List.getD_cons_zero])
          | ((with_reducible show wpX _ _ _ _ _ _ (Oper.mk _ (Op.call _) _ _ _ _ :: _) _); refine x_callf (f := 109) (args := #[.agg #[.int .i64 d.1, .int .i64 d.2.1, .int .i64 d.2.2.1, .slice pw (List.length d.2.2.2.1) cw, .slice pb (List.length d.2.2.2.2.1) cb]]) rfl rfl Try.func109 rfl (by kernel_rfl) ?_ ?_ ?_; (focus (simp [Act.eval]; done)); (focus (intro w1 hw1; exact (by rw [HF.out]; exact C.out w1))); rintro u w3 e3 e4 hu; simp only [HF.out] at hu; subst hu; simp only [Act.put, ev_tmp, List.setIfInBounds_toArray, List.set_cons_succ, List.set_cons_zero, List.getD_cons_succ, List.getD_cons_zero])
          | (refine x_run rfl fun K hK w1 hw1 => ?_; have k0 := hw1.cellOf (b := wr.heap.size) (by simp); have k1 := hw1.cell (gd); go_simp; refine hK _ ?_; clear hK K k0 k1 hw1 w1))
        refine x_nil ?_
        go_wp2
        go_ret
        exact ⟨ret_bool (by simp), (he.trans E1).trans hwf⟩
      have hb2 := hb
      unfold layD at hb2
      rw [hb2] at C
      rw [hb, Bool.true_and] at hst
      clear hb hb2
      rcases Nat.eq_zero_or_pos i with h0 | h0
      · subst h0
        have hst2 : modGo (prevL l 1) (l.drop 1) = G := by rw [← hst]; simp [linkL, prevL]
        have Hst := hid hst2
        clear hst hst2
        go_wp2_with ((with_reducible show wpList _ _ _ (Oper.mk _ (Op.indexAddr _ _ _) _ _ _ _ :: Oper.mk _ (Op.load _ _) _ _ _ _ :: _) _ _); refine wl_idxloadE (s := shLayer) (j := 0) rfl rfl rfl rfl (fun _ => rfl) rfl rfl rfl hp a6 a7 hlt hs1 hci ?_; simp only [ofCs, Sh.agg, if_true])
        have E1 := (Ext.alloc wr (.cells #[.int .i64 d.1, .int .i64 d.2.1, .int .i64 d.2.2.1, .slice pw (List.length d.2.2.2.1) cw, .slice pb (List.length d.2.2.2.2.1) cb] 65)).trans (Ext.drew _)
        have gd := E1.cell g0
        have hpd := hp.ext E1
        obtain ⟨F, hF⟩ : ∃ F : Option Tmp → World → Value → Prop, F = fun _ _ u => u = .bool true := ⟨_, rfl⟩
        have HF := hid hF
        clear hF
        refine wp_region_xall (F := F) (by kernel_rfl) (by kernel_rfl) (by kernel_rfl) ?_
        intro wf hwf
        repeat (first
          | (refine x_skip rfl ?_; simp only [Act.put, ev_tmp, List.setIfInBounds_toArray, List.set_cons_succ, List.set_cons_zero, List.getD_cons_succ, List.getD_cons_zero])
          | (refine x_mv rfl rfl rfl ?_; simp only [Act.put, ev_tmp, List.setIfInBounds_toArray, List.set_cons_succ, List.set_cons_zero, List.getD_cons_succ, List.getD_cons_zero])
          | (refine x_as rfl rfl rfl ?_; simp only [Act.put, ev_tmp, List.setIfInBounds_toArray, List.set_cons_succ, List.set_cons_zero, List.getD_cons_succ, List.getD_cons_zero])
          | ((with_reducible show wpX _ _ _ _ _ _ (Oper.mk _ (Op.call _) _ _ _ _ :: _) _); refine x_callf (f := 109) (args := #[.agg #[.int .i64 d.1, .int .i64 d.2.1, .int .i64 d.2.2.1, .slice pw (List.length d.2.2.2.1) cw, .slice pb (List.length d.2.2.2.2.1) cb]]) rfl rfl Try.func109 rfl (by kernel_rfl) ?_ ?_ ?_; (focus (simp [Act.eval]; done)); (focus (intro w1 hw1; exact (by rw [HF.out]; exact C.out w1))); rintro u w3 e3 e4 hu; simp only [HF.out] at hu; subst hu; simp only [Act.put, ev_tmp, List.setIfInBounds_toArray, List.set_cons_succ, List.set_cons_zero, List.getD_cons_succ, List.getD_cons_zero])
          | (refine x_run rfl fun K hK w1 hw1 => ?_; have k0 := hw1.cellOf (b := wr.heap.size) (by simp); have k1 := hw1.cell (gd); go_simp; refine hK _ ?_; clear hK K k0 k1 hw1 w1))
        refine x_nil ?_
        go_wp2
        go_roundw
        case rel => exact ⟨1, by omega, by go_num, Hst.out, (he.trans E1).trans hwf, hwf.cell gd, by have := hwf.size; simp at this; omega⟩
        case measure => simp [intOf]; omega
      · obtain ⟨j, rfl⟩ : ∃ j, i = j + 1 := ⟨i - 1, by omega⟩
        obtain ⟨cj, hcj, rj⟩ := a5.get j l[j] (by simp)
        obtain ⟨qw, dw, qb, db, rfl, _, _⟩ := lay_vals rj
        have hlk : linkL (prevL l (j + 1)) d.2.1 = decide (d.2.1 = layO l[j]) := by simp [prevL, linkL, show j < l.length by omega]
        rw [hlk] at hst
        have hA : IntKind.i64.wrap (((j + 1 : Nat) : Int) - 1) = (j : Int) := by rw [show ((j + 1 : Nat) : Int) - 1 = (j : Int) by omega]; exact wrap_in _ (by omega) (by omega)
        have hB : IntKind.i64.wrap ((j : Int) + 1 - 1) = (j : Int) := by rw [show (j : Int) + 1 - 1 = (j : Int) by omega]; exact wrap_in _ (by omega) (by omega)
        have hC : IntKind.i64.wrap (j : Int) = (j : Int) := wrap_in _ (by omega) (by omega)
        clear hlk
        by_cases hq : d.2.1 = layO l[j]
        · have hst2 : modGo (prevL l (j + 1 + 1)) (l.drop (j + 1 + 1)) = G := by rw [← hst]; simp [hq]
          have Hst := hid hst2
          have Q := bne_f hq
          unfold layO at Q
          clear hst hst2 hq
          go_wp2_with ((with_reducible show wpList _ _ _ (Oper.mk _ (Op.indexAddr _ _ _) _ _ _ _ :: Oper.mk _ (Op.load _ _) _ _ _ _ :: _) _ _); refine wl_idxloadE (s := shLayer) (j := j + 1) rfl rfl rfl rfl (fun _ => rfl) rfl rfl rfl hp a6 a7 hlt hs1 hci ?_; simp only [ofCs, Sh.agg, if_true])
          have E1 := (Ext.alloc wr (.cells #[.int .i64 d.1, .int .i64 d.2.1, .int .i64 d.2.2.1, .slice pw (List.length d.2.2.2.1) cw, .slice pb (List.length d.2.2.2.2.1) cb] 65)).trans (Ext.drew _)
          have gd := E1.cell g0
          have hpd := hp.ext E1
          obtain ⟨F, hF⟩ : ∃ F : Option Tmp → World → Value → Prop, F = fun _ _ u => u = .bool true := ⟨_, rfl⟩
          have HF := hid hF
          clear hF
          refine wp_region_xall (F := F) (by kernel_rfl) (by kernel_rfl) (by kernel_rfl) ?_
          intro wf hwf
          repeat (first
            | (refine x_skip rfl ?_; simp only [Act.put, ev_tmp, List.setIfInBounds_toArray, List.set_cons_succ, List.set_cons_zero, List.getD_cons_succ, List.getD_cons_zero])
            | (refine x_mv rfl rfl rfl ?_; simp only [Act.put, ev_tmp, List.setIfInBounds_toArray, List.set_cons_succ, List.set_cons_zero, List.getD_cons_succ, List.getD_cons_zero])
            | (refine x_as rfl rfl rfl ?_; simp only [Act.put, ev_tmp, List.setIfInBounds_toArray, List.set_cons_succ, List.set_cons_zero, List.getD_cons_succ, List.getD_cons_zero])
            | ((with_reducible show wpX _ _ _ _ _ _ (Oper.mk _ (Op.indexAddr _ _ _) _ _ _ _ :: Oper.mk _ (Op.fieldAddr _ _ _) _ _ _ _ :: Oper.mk _ (Op.load _ _) _ _ _ _ :: _) _); refine x_ldField (f := 2) (j := j) (off := 2) rfl rfl (fun _ => rfl) rfl (fun _ _ => rfl) rfl (fun _ => rfl) (fun _ _ => rfl) fo_implLayer_2 rfl rfl (by omega) hpd a6 a7 (by omega) hs1 hcj rfl ?_; simp only [Act.put, ev_tmp, List.setIfInBounds_toArray, List.set_cons_succ, List.set_cons_zero, List.getD_cons_succ, List.getD_cons_zero])
            | ((with_reducible show wpX _ _ _ _ _ _ (Oper.mk _ (Op.call _) _ _ _ _ :: _) _); refine x_callf (f := 109) (args := #[.agg #[.int .i64 d.1, .int .i64 d.2.1, .int .i64 d.2.2.1, .slice pw (List.length d.2.2.2.1) cw, .slice pb (List.length d.2.2.2.2.1) cb]]) rfl rfl Try.func109 rfl (by kernel_rfl) ?_ ?_ ?_; (focus (simp [Act.eval]; done)); (focus (intro w1 hw1; exact (by rw [HF.out]; exact C.out w1))); rintro u w3 e3 e4 hu; simp only [HF.out] at hu; subst hu; simp only [Act.put, ev_tmp, List.setIfInBounds_toArray, List.set_cons_succ, List.set_cons_zero, List.getD_cons_succ, List.getD_cons_zero])
            | (refine x_run rfl fun K hK w1 hw1 => ?_; have k0 := hw1.cellOf (b := wr.heap.size) (by simp); have k1 := hw1.cell (gd); go_simp; refine hK _ ?_; clear hK K k0 k1 hw1 w1))
          refine x_nil ?_
          go_wp2
          go_roundw
          case rel => exact ⟨j + 1 + 1, by omega, by go_num, Hst.out, (he.trans E1).trans hwf, hwf.cell gd, by have := hwf.size; simp at this; omega⟩
          case measure => simp [intOf]; omega
        · have hG : G = false := by rw [← hst]; simp [hq]
          subst hG
          have Q := bne_t hq
          unfold layO at Q
          clear hst hq
          go_wp2_with ((with_reducible show wpList _ _ _ (Oper.mk _ (Op.indexAddr _ _ _) _ _ _ _ :: Oper.mk _ (Op.load _ _) _ _ _ _ :: _) _ _); refine wl_idxloadE (s := shLayer) (j := j + 1) rfl rfl rfl rfl (fun _ => rfl) rfl rfl rfl hp a6 a7 hlt hs1 hci ?_; simp only [ofCs, Sh.agg, if_true])
          have E1 := (Ext.alloc wr (.cells #[.int .i64 d.1, .int .i64 d.2.1, .int .i64 d.2.2.1, .slice pw (List.length d.2.2.2.1) cw, .slice pb (List.length d.2.2.2.2.1) cb] 65)).trans (Ext.drew _)
          have gd := E1.cell g0
          have hpd := hp.ext E1
          obtain ⟨F, hF⟩ : ∃ F : Option Tmp → World → Value → Prop, F = fun _ _ u => u = .bool true := ⟨_, rfl⟩
          have HF := hid hF
          clear hF
          refine wp_region_xall (F := F) (by kernel_rfl) (by kernel_rfl) (by kernel_rfl) ?_
          intro wf hwf
          repeat (first
            | (refine x_skip rfl ?_; simp only [Act.put, ev_tmp, List.setIfInBounds_toArray, List.set_cons_succ, List.set_cons_zero, List.getD_cons_succ, List.getD_cons_zero])
            | (refine x_mv rfl rfl rfl ?_; simp only [Act.put, ev_tmp, List.setIfInBounds_toArray, List.set_cons_succ, List.set_cons_zero, List.getD_cons_succ, List.getD_cons_zero])
            | (refine x_as rfl rfl rfl ?_; simp only [Act.put, ev_tmp, List.setIfInBounds_toArray, List.set_cons_succ, List.set_cons_zero, List.getD_cons_succ, List.getD_cons_zero])
            | ((with_reducible show wpX _ _ _ _ _ _ (Oper.mk _ (Op.indexAddr _ _ _) _ _ _ _ :: Oper.mk _ (Op.fieldAddr _ _ _) _ _ _ _ :: Oper.mk _ (Op.load _ _) _ _ _ _ :: _) _); refine x_ldField (f := 2) (j := j) (off := 2) rfl rfl (fun _ => rfl) rfl (fun _ _ => rfl) rfl (fun _ => rfl) (fun _ _ => rfl) fo_implLayer_2 rfl rfl (by omega) hpd a6 a7 (by omega) hs1 hcj rfl ?_; simp only [Act.put, ev_tmp, List.setIfInBounds_toArray, List.set_cons_succ, List.set_cons_zero, List.getD_cons_succ, List.getD_cons_zero])
            | ((with_reducible show wpX _ _ _ _ _ _ (Oper.mk _ (Op.call _) _ _ _ _ :: _) _); refine x_callf (f := 109) (args := #[.agg #[.int .i64 d.1, .int .i64 d.2.1, .int .i64 d.2.2.1, .slice pw (List.length d.2.2.2.1) cw, .slice pb (List.length d.2.2.2.2.1) cb]]) rfl rfl Try.func109 rfl (by kernel_rfl) ?_ ?_ ?_; (focus (simp [Act.eval]; done)); (focus (intro w1 hw1; exact (by rw [HF.out]; exact C.out w1))); rintro u w3 e3 e4 hu; simp only [HF.out] at hu; subst hu; simp only [Act.put, ev_tmp, List.setIfInBounds_toArray, List.set_cons_succ, List.set_cons_zero, List.getD_cons_succ, List.getD_cons_zero])
            | (refine x_run rfl fun K hK w1 hw1 => ?_; have k0 := hw1.cellOf (b := wr.heap.size) (by simp); have k1 := hw1.cell (gd); go_simp; refine hK _ ?_; clear hK K k0 k1 hw1 w1))
          refine x_nil ?_
          go_wp2
          go_ret
          exact ⟨ret_bool (by simp), (he.trans E1).trans hwf⟩
    · obtain rfl : i = n := by omega
      have hst := HI.out
      rw [List.drop_of_length_le (by rw [HL.out]; exact Nat.le_refl _)] at hst
      have hst2 : G = true := by rw [← hst]; simp [modGo]
      subst hst2
      have hL := HL.out
      by_cases h1 : 1 ≤ i
      · by_cases h6 : i ≤ 6
        · have h6' : (i : Int) ≤ 6 := by omega
          go_wp2
          go_ret
          exact ⟨ret_bool (by first | rfl | (rw [hL]; simp [h1, h6, h6'])), he⟩
        · have h6' : ¬ (i : Int) ≤ 6 := by omega
          go_wp2
          go_ret
          exact ⟨ret_bool (by first | rfl | (rw [hL]; simp [h1, h6, h6'])), he⟩
      · go_wp2
        go_ret
        exact ⟨ret_bool (by first | rfl | (rw [hL]; simp [h1])), he⟩
end Go.Proofs.Ytlimabbeaimdgaa
/- Examples: which are valid. -/
namespace Go.Proofs.Ytlimabbeaimdgaa
set_option linter.unusedSimpArgs false
set_option linter.unusedVariables false
open Go.RowKit

def exaB (r1 c1 : Int) (n1 : Nat) (r2 c2 : Int) (n2 : Nat) : Bool := tenB r1 c1 n1 && (tenB r2 c2 n2 && decide (r1 = r2))
end Go.Proofs.Ytlimabbeaimdgaa
