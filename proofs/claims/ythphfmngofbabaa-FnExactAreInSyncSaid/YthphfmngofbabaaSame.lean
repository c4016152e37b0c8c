/- impl.SameNumber and spec.l01Same say the same: whether two numbers have the same bits (all NaNs are one). -/
import Derived.Test.YthphfmngofbabaaBits
namespace Go.Proofs.Ythphfmngofbabaa
set_option linter.unusedSimpArgs false
set_option linter.unusedVariables false
open Go.RowKit

theorem single_sw : (Ieee.single).signWeight = 2147483648 := by decide
theorem single_ir : (Ieee.single).infRung = 2139095040 := by decide
theorem single_bi : (Ieee.single).binade = 8388608 := by decide
theorem single_lp : (Ieee.single).leastPlace = -149 := by decide
/-- What a word of 32 bits that is no NaN stands for. -/
theorem read_cases {a : Nat} (ha : a < 4294967296) (na : (FloatKind.f32.decode a).isNaN = false) :
    (∃ m e, Ieee.single.read a = .number (decide (2147483648 ≤ a)) m e ∧ (a % 2147483648 < 8388608 ∧ m = a % 2147483648 ∧ e = -149 ∨ 8388608 ≤ a % 2147483648 ∧ m = 8388608 + a % 2147483648 % 8388608 ∧ e = -149 + ((a % 2147483648 / 8388608 - 1 : Nat) : Int))) ∨
    (Ieee.single.read a = .infinity (decide (2147483648 ≤ a)) ∧ a % 2147483648 = 2139095040) := by
  have hneg : (a / 2147483648 % 2 == 1) = decide (2147483648 ≤ a) := by
    rw [Bool.eq_iff_iff]; simp only [beq_iff_eq, decide_eq_true_eq]; omega
  have na' : (Ieee.single.read a).isNaN = false := na
  unfold Ieee.Format.read at na' ⊢
  simp only [single_sw, single_ir, single_bi, single_lp, hneg] at na' ⊢
  split
  · exact .inl ⟨_, _, rfl, .inl ⟨by assumption, rfl, rfl⟩⟩
  · rename_i h1
    split
    · exact .inl ⟨_, _, rfl, .inr ⟨by omega, rfl, rfl⟩⟩
    · rename_i h2
      rw [if_neg h1, if_neg h2] at na'
      split
      · rename_i h3; exact .inr ⟨rfl, h3⟩
      · rename_i h3; rw [if_neg h3] at na'; simp [Ieee.Datum.isNaN] at na'
theorem shift_eq {m n : Nat} {e f : Int} (h : m <<< (e - min e f).toNat = n <<< (f - min e f).toNat) (hef : e ≤ f) : m = n * 2 ^ (f - e).toNat := by
  have h1 : min e f = e := by omega
  rw [h1, Nat.shiftLeft_eq, Nat.shiftLeft_eq] at h
  simpa using h
theorem rung_eq {r q m n : Nat} {e f : Int} (hr : r < 8388608 ∧ m = r ∧ e = -149 ∨ 8388608 ≤ r ∧ m = 8388608 + r % 8388608 ∧ e = -149 + ((r / 8388608 - 1 : Nat) : Int))
    (hq : q < 8388608 ∧ n = q ∧ f = -149 ∨ 8388608 ≤ q ∧ n = 8388608 + q % 8388608 ∧ f = -149 + ((q / 8388608 - 1 : Nat) : Int)) (h : m = n * 2 ^ (f - e).toNat) (hef : e ≤ f) : r = q := by
  obtain ⟨k, hk⟩ : ∃ k, k = (f - e).toNat := ⟨_, rfl⟩
  rw [← hk] at h
  cases k with
  | zero => rw [Nat.pow_zero, Nat.mul_one] at h; omega
  | succ k =>
    exfalso
    have h2 : n * 2 ^ (k + 1) = n * 2 ^ k * 2 := by rw [Nat.pow_succ, Nat.mul_assoc]
    have h3 : n ≤ n * 2 ^ k := Nat.le_mul_of_pos_right _ (Nat.two_pow_pos k)
    rw [h2] at h
    generalize n * 2 ^ k = z at *
    omega
theorem mag_eq {r q m n : Nat} {e f : Int} (hr : r < 8388608 ∧ m = r ∧ e = -149 ∨ 8388608 ≤ r ∧ m = 8388608 + r % 8388608 ∧ e = -149 + ((r / 8388608 - 1 : Nat) : Int))
    (hq : q < 8388608 ∧ n = q ∧ f = -149 ∨ 8388608 ≤ q ∧ n = 8388608 + q % 8388608 ∧ f = -149 + ((q / 8388608 - 1 : Nat) : Int)) (h : m <<< (e - min e f).toNat = n <<< (f - min e f).toNat) : r = q := by
  rcases Int.le_total e f with hef | hef
  · exact rung_eq hr hq (shift_eq h hef) hef
  · exact (rung_eq hq hr (shift_eq (by rw [Int.min_comm] at h; exact h.symm) hef) hef).symm
/-- Equal by order and of one sign: the same word. -/
theorem order_bits {a b : Nat} (ha : a < 4294967296) (hb : b < 4294967296) (na : (FloatKind.f32.decode a).isNaN = false) (nb : (FloatKind.f32.decode b).isNaN = false)
    (h : FloatKind.f32.format.order a b = some .eq) (hs : decide (2147483648 ≤ a) = decide (2147483648 ≤ b)) : a = b := by
  have h' : (Ieee.single.read a).order (Ieee.single.read b) = some .eq := h
  have hss : 2147483648 ≤ a ↔ 2147483648 ≤ b := by simpa using hs
  suffices a % 2147483648 = b % 2147483648 by omega
  rcases read_cases ha na with ⟨m, e, h1, h2⟩ | ⟨h1, h2⟩
  · rcases read_cases hb nb with ⟨n, f, h3, h4⟩ | ⟨h3, h4⟩
    · rw [h1, h3] at h'
      simp only [Ieee.Datum.order, Option.some.injEq] at h'
      have h5 : Ieee.signed (decide (2147483648 ≤ a)) m (e - min e f).toNat = Ieee.signed (decide (2147483648 ≤ b)) n (f - min e f).toNat := by
        unfold compare at h'
        simp only [instOrdInt, compareOfLessAndEq] at h'
        split at h'
        · cases h'
        · split at h'
          · assumption
          · cases h'
      rw [hs] at h5
      refine mag_eq h2 h4 ?_
      unfold Ieee.signed at h5
      split at h5 <;> omega
    · rw [h1, h3] at h'; simp only [Ieee.Datum.order, Option.some.injEq] at h'; split at h' <;> cases h'
  · rcases read_cases hb nb with ⟨n, f, h3, h4⟩ | ⟨h3, h4⟩
    · rw [h1, h3] at h'; simp only [Ieee.Datum.order, Option.some.injEq] at h'; split at h' <;> cases h'
    · rw [h2, h4]
theorem word_sign (f : Ieee.Format) (neg : Bool) {r : Nat} (hr : r ≤ f.infRung) : decide (f.signWeight ≤ f.word neg r) = neg ∧ f.word neg r < 2 * f.signWeight := by
  have hlt : r < f.signWeight := Nat.lt_of_le_of_lt hr f.infRung_lt
  unfold Ieee.Format.word
  cases neg
  · simp; omega
  · simp; omega
theorem write_sign (f : Ieee.Format) {d : Ieee.Datum} (hd : d.isNaN = false) : decide (f.signWeight ≤ f.write d) = d.neg ∧ f.write d < 2 * f.signWeight := by
  cases d with
  | nan s t => simp [Ieee.Datum.isNaN] at hd
  | infinity s => exact word_sign f s (Nat.le_refl _)
  | number s m e =>
    show decide (f.signWeight ≤ f.nearest s m e) = s ∧ f.nearest s m e < 2 * f.signWeight
    unfold Ieee.Format.nearest
    dsimp only
    split
    · exact word_sign f s (Nat.zero_le _)
    · exact word_sign f s (Nat.min_le_right _ _)
theorem widen_some {a : Nat} (na : (FloatKind.f32.decode a).isNaN = false) : floatToFloatBits .f32 a .f64 = some (fconv .f32 a .f64) := by
  have ho := fover_widen a
  unfold fover at ho
  rw [na] at ho
  simp only [Bool.not_false, Bool.true_and] at ho
  unfold fconv
  cases h : floatToFloatBits .f32 a .f64 with
  | none => rw [h] at ho; cases ho
  | some r => rfl
/-- The sign of a number made a float64. -/
theorem widen_sign {a : Nat} (ha : a < 4294967296) (na : (FloatKind.f32.decode a).isNaN = false) : decide (9223372036854775808 ≤ fconv .f32 a .f64) = decide (2147483648 ≤ a) ∧ fconv .f32 a .f64 < 18446744073709551616 := by
  have ho := fover_widen a
  have hsw : (Ieee.double).signWeight = 9223372036854775808 := by decide
  have key : fconv .f32 a .f64 = Ieee.double.write (Ieee.single.read a) := by
    have hne : ¬ (FloatKind.f32 = FloatKind.f64) := by decide
    unfold fover at ho
    rw [na] at ho
    simp only [Bool.not_false, Bool.true_and] at ho
    unfold fconv
    cases h : floatToFloatBits .f32 a .f64 with
    | none => rw [h] at ho; cases ho
    | some r =>
      simp only [floatToFloatBits, hne, if_false] at h
      have na' := na
      split at h
      · cases h
      · rename_i hd; cases h; show _ = Ieee.double.write (FloatKind.f32.decode a); rw [hd]; rfl
      · rename_i hd
        split at h
        · cases h
        · cases h; show _ = Ieee.double.write (FloatKind.f32.decode a); rw [hd]; rfl
  have na' : (Ieee.single.read a).isNaN = false := na
  have hw := write_sign Ieee.double na'
  rw [hsw, ← key] at hw
  refine ⟨?_, by omega⟩
  rw [hw.1]
  rcases read_cases ha na with ⟨m, e, h1, h2⟩ | ⟨h1, h2⟩ <;> rw [h1] <;> rfl
theorem wrap64_neg {r : Nat} (h : r < 18446744073709551616) : decide (wrap64 r < 0) = decide (9223372036854775808 ≤ r) := by
  unfold wrap64
  rw [Bool.eq_iff_iff]; simp only [decide_eq_true_eq]; omega
theorem wrap64_eq {x y : Nat} (hx : x < 4294967296) (hy : y < 4294967296) : wrap64 (x : Int) = wrap64 (y : Int) ↔ x = y := by
  unfold wrap64; omega

theorem run_f64bits (b : Nat) (w : World) : (callFunc 157 #[.float .f64 b]).run Try.prog w = .ok (.value (.int .u64 b)) w :=
  run_extern (e := Extern.MathFloatBits.float64bits) Try.func157 (by kernel_rfl) (by kernel_rfl) (by kernel_rfl) (by kernel_rfl) rfl
set_option maxRecDepth 100000 in
set_option maxHeartbeats 1000000 in
theorem Signbit_any (r : Nat) (w : World) (hr : r < 18446744073709551616) : Calls Try.prog 121 #[.float .f64 r] w fun e w' => e = .returned (.bool (decide (9223372036854775808 ≤ r))) ∧ w' = w := by
  have hx := run_f64bits r
  have hw := wrap64_neg hr
  go_enter Try.func121, Try.ntmps121
  go_wp2
  go_ret
  exact ⟨by first | rw [← hw]; rfl | skip, rfl⟩
set_option maxRecDepth 100000 in
set_option maxHeartbeats 1000000 in
theorem SameNumber_any (a b : Nat) (w : World) (ha : cn .f32 a < 4294967296) (hb : cn .f32 b < 4294967296) : Calls Try.prog 67 #[.float .f32 a, .float .f32 b] w fun e w' => e = .returned (.bool (decide (cn .f32 a = cn .f32 b))) ∧ w' = w := by
  by_cases hna : (FloatKind.f32.decode a).isNaN = true
  · have h1 : (FloatKind.f32.format.order a a != some .eq) = true := by rw [order_nan hna]; rfl
    by_cases hnb : (FloatKind.f32.decode b).isNaN = true
    · have h2 : (FloatKind.f32.format.order b b != some .eq) = true := by rw [order_nan hnb]; rfl
      have h3 : decide (cn .f32 a = cn .f32 b) = true := by rw [cn_nan hna, cn_nan hnb]; simp
      rw [h3]
      clear h3 ha hb hna hnb
      go_enter Try.func67, Try.ntmps67
      go_wp2
      go_ret
      exact ⟨rfl, rfl⟩
    · have hnb' : (FloatKind.f32.decode b).isNaN = false := by simpa using hnb
      have h2 : (FloatKind.f32.format.order b b != some .eq) = false := by rw [order_self hnb']; rfl
      have h3 : decide (cn .f32 a = cn .f32 b) = false := by
        refine decide_eq_false fun h => ?_
        have := isNaN_of_cn h; rw [hna, hnb'] at this; cases this
      rw [h3]
      clear h3 ha hb hna hnb hnb'
      go_enter Try.func67, Try.ntmps67
      go_wp2
      go_ret
      exact ⟨rfl, rfl⟩
  · have hna' : (FloatKind.f32.decode a).isNaN = false := by simpa using hna
    have h1 : (FloatKind.f32.format.order a a != some .eq) = false := by rw [order_self hna']; rfl
    by_cases hnb : (FloatKind.f32.decode b).isNaN = true
    · have h2 : (FloatKind.f32.format.order b b != some .eq) = true := by rw [order_nan hnb]; rfl
      have h3 : decide (cn .f32 a = cn .f32 b) = false := by
        refine decide_eq_false fun h => ?_
        have := isNaN_of_cn h; rw [hna', hnb] at this; cases this
      rw [h3]
      clear h3 ha hb hna hnb hna'
      go_enter Try.func67, Try.ntmps67
      go_wp2
      go_ret
      exact ⟨rfl, rfl⟩
    · have hnb' : (FloatKind.f32.decode b).isNaN = false := by simpa using hnb
      have h2 : (FloatKind.f32.format.order b b != some .eq) = false := by rw [order_self hnb']; rfl
      rw [cn_not hna'] at ha ⊢
      rw [cn_not hnb'] at hb ⊢
      have sa := widen_sign ha hna'
      have sb := widen_sign hb hnb'
      have ca := widen_some hna'
      have cb := widen_some hnb'
      by_cases ho : FloatKind.f32.format.order a b = some .eq
      · have h4 : (FloatKind.f32.format.order a b == some .eq) = true := by rw [ho]; rfl
        have h5 : decide (a = b) = (decide (2147483648 ≤ a) == decide (2147483648 ≤ b)) := by
          by_cases hs : decide (2147483648 ≤ a) = decide (2147483648 ≤ b)
          · have := order_bits ha hb hna' hnb' ho hs
            subst this; simp
          · rw [(beq_eq_false_iff_ne).2 hs]
            refine decide_eq_false fun h => hs ?_
            rw [h]
        have va := fun w => run_convert_float_float w 26 47 .f32 .f64 a _ (by rw [underlying_f32]; rfl) underlying_f64 ca
        have vb := fun w => run_convert_float_float w 26 47 .f32 .f64 b _ (by rw [underlying_f32]; rfl) underlying_f64 cb
        have Ha := Signbit_any (fconv .f32 a .f64)
        have Hb := Signbit_any (fconv .f32 b .f64)
        rw [h5, ← sa.1, ← sb.1]
        generalize fconv .f32 a .f64 = x at *
        generalize fconv .f32 b .f64 = y at *
        have Ha := fun w => Ha w sa.2
        have Hb := fun w => Hb w sb.2
        clear h5 ha hb hna hnb hna' hnb' sa sb ho
        generalize decide (9223372036854775808 ≤ x) = p at *
        generalize decide (9223372036854775808 ≤ y) = q at *
        go_enter Try.func67, Try.ntmps67
        go_wp2_with fail
        refine (Ha _).mono ?_
        rintro e w1 ⟨rfl, rfl⟩
        go_wp2_with fail
        refine (Hb _).mono ?_
        rintro e w1 ⟨rfl, rfl⟩
        go_wp2
        go_ret
        exact ⟨rfl, rfl⟩
      · have h4 : (FloatKind.f32.format.order a b == some .eq) = false := by simpa using ho
        have h5 : decide (a = b) = false := by
          refine decide_eq_false fun h => ho ?_
          subst h; exact order_self hna'
        rw [h5]
        clear h5 ha hb hna hnb hna' hnb' sa sb ho
        go_enter Try.func67, Try.ntmps67
        go_wp2
        go_ret
        exact ⟨rfl, rfl⟩
set_option maxRecDepth 100000 in
set_option maxHeartbeats 1000000 in
theorem l01Same_any (a b : Nat) (w : World) (ha : cn .f32 a < 4294967296) (hb : cn .f32 b < 4294967296) : Calls Try.prog 115 #[.float .f32 a, .float .f32 b] w fun e w' => e = .returned (.bool (decide (cn .f32 a = cn .f32 b))) ∧ w' = w := by
  have h : decide (cn .f32 a = cn .f32 b) = (bitsOf (cn .f32 a) == bitsOf (cn .f32 b)) := by
    rw [Bool.eq_iff_iff]; simp only [decide_eq_true_eq, beq_iff_eq]; exact (wrap64_eq ha hb).symm
  rw [h]
  have Ha := l01Bits_any a
  have Hb := l01Bits_any b
  generalize bitsOf (cn .f32 a) = x at *
  generalize bitsOf (cn .f32 b) = y at *
  clear ha hb h
  go_enter Try.func115, Try.ntmps115
  go_wp2_with fail
  refine (Ha _).mono ?_
  rintro e w1 ⟨rfl, rfl⟩
  go_wp2_with fail
  refine (Hb _).mono ?_
  rintro e w1 ⟨rfl, rfl⟩
  go_wp2
  go_ret
  exact ⟨rfl, rfl⟩
end Go.Proofs.Ythphfmngofbabaa
