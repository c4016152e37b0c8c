/- Numbers that are written exactly, and read again; values in units of 2^-1074. -/
import Derived.Test.YtlimabbeaimdgaaKa
namespace Go.Proofs.Ytlimabbeaimdgaa
set_option linter.unusedSimpArgs false
set_option linter.unusedVariables false
open Go.RowKit
namespace Ex
open Ieee

theorem read_word (f : Format) (s : Bool) {r : Nat} (hr : r < f.infRung) :
    f.read (f.word s r) = if r < f.binade then .number s r f.leastPlace else .number s (f.binade + r % f.binade) (f.leastPlace + (r / f.binade - 1 : Nat)) := by
  have h1 := f.infRung_lt
  have hs : 0 < f.signWeight := by omega
  have hw : f.word s r / f.signWeight % 2 = s.toNat ∧ f.word s r % f.signWeight = r := by
    unfold Format.word
    cases s
    · simp only [Bool.false_eq_true, if_false]
      exact ⟨by rw [Nat.div_eq_of_lt (by omega)]; rfl, Nat.mod_eq_of_lt (by omega)⟩
    · simp only [if_true]
      exact ⟨by rw [Nat.add_div_left _ hs, Nat.div_eq_of_lt (by omega)]; rfl, by rw [Nat.add_mod_left, Nat.mod_eq_of_lt (by omega)]⟩
  unfold Format.read
  simp only [hw.1, hw.2]
  rw [show ((s.toNat == 1) : Bool) = s from by cases s <;> rfl]
  rw [if_pos hr]
theorem log2_lt (m : Nat) : m < 2 ^ (m.log2 + 1) := Nat.lt_log2_self
theorem cut_exact (s : Bool) (n q d : Nat) (hn : n = q * 2 ^ d) (hq : q ≠ 0) : Toward.even.cut s n d = q := by
  subst hn
  have hl : d ≤ (q * 2 ^ d).log2 := (Nat.le_log2 (by have := Nat.two_pow_pos d; exact Nat.mul_ne_zero hq (by omega))).2 (by
    have : 1 ≤ q := Nat.one_le_iff_ne_zero.2 hq
    calc 2 ^ d = 1 * 2 ^ d := by omega
      _ ≤ q * 2 ^ d := Nat.mul_le_mul_right _ this)
  have hg : 1 <<< min d ((q * 2 ^ d).log2 + 2) = 2 ^ d := by
    rw [Nat.min_eq_left (by omega), Nat.one_shiftLeft]
  unfold Toward.cut
  simp only [hg]
  rw [Nat.mul_div_left _ (Nat.two_pow_pos d), Nat.mul_mod_left]
  have h2 := Nat.two_pow_pos d
  have h3 : ¬ (2 ^ d < 2 * 0) := by omega
  have h4 : (2 ^ d == 2 * 0) = false := by simp
  simp [h4]
/-- A number that the format has is written as itself. -/
theorem near_exact (f : Format) (s : Bool) (m : Nat) (p last : Int) (hl : last = max (p + m.log2 - f.fractionBits) f.leastPlace) (hm : m ≠ 0) (hd : 2 ^ (last - p).toNat ∣ m) (hr : (last - f.leastPlace).toNat + 2 < 2 ^ f.exponentBits) :
    ∃ k, f.read (f.nearest s m p) = .number s k last ∧ k * 2 ^ (last - p).toNat = m * 2 ^ (p - last).toNat ∧ k ≠ 0 ∧ k < 2 ^ (f.fractionBits + 1) := by
  obtain ⟨q, hq⟩ := hd
  have hq0 : q ≠ 0 := by intro h; subst h; simp at hq; exact hm hq
  have hL := log2_lt m
  have hG := Nat.log2_self_le hm
  have hlast := hl
  have hk : Toward.even.cut s (m <<< (p - last).toNat) (last - p).toNat = q * 2 ^ (p - last).toNat := by
    refine cut_exact s _ _ _ ?_ ?_
    · rw [Nat.shiftLeft_eq, hq]; ac_rfl
    · exact Nat.mul_ne_zero hq0 (by have := Nat.two_pow_pos (p - last).toNat; omega)
  have hqm : q * 2 ^ (p - last).toNat * 2 ^ (last - p).toNat = m * 2 ^ (p - last).toNat := by rw [hq]; ac_rfl
  have hle : f.leastPlace ≤ last := by omega
  -- the digits that are kept
  have hub : q * 2 ^ (p - last).toNat < 2 ^ (f.fractionBits + 1) := by
    have h1 : q * 2 ^ (p - last).toNat * 2 ^ (last - p).toNat < 2 ^ (f.fractionBits + 1) * 2 ^ (last - p).toNat := by
      rw [hqm, ← Nat.pow_add]
      calc m * 2 ^ (p - last).toNat < 2 ^ (m.log2 + 1) * 2 ^ (p - last).toNat := Nat.mul_lt_mul_of_pos_right hL (Nat.two_pow_pos _)
        _ = 2 ^ (m.log2 + 1 + (p - last).toNat) := (Nat.pow_add ..).symm
        _ ≤ 2 ^ (f.fractionBits + 1 + (last - p).toNat) := Nat.pow_le_pow_right (by omega) (by omega)
    exact Nat.lt_of_mul_lt_mul_right h1
  have hlb : f.leastPlace < last → 2 ^ f.fractionBits ≤ q * 2 ^ (p - last).toNat := by
    intro hlt
    have h1 : 2 ^ f.fractionBits * 2 ^ (last - p).toNat ≤ q * 2 ^ (p - last).toNat * 2 ^ (last - p).toNat := by
      rw [hqm, ← Nat.pow_add]
      calc 2 ^ (f.fractionBits + (last - p).toNat) ≤ 2 ^ (m.log2 + (p - last).toNat) := Nat.pow_le_pow_right (by omega) (by omega)
        _ = 2 ^ m.log2 * 2 ^ (p - last).toNat := Nat.pow_add ..
        _ ≤ m * 2 ^ (p - last).toNat := Nat.mul_le_mul_right _ hG
    exact Nat.le_of_mul_le_mul_right h1 (Nat.two_pow_pos _)
  refine ⟨q * 2 ^ (p - last).toNat, ?_, hqm, Nat.mul_ne_zero hq0 (by have := Nat.two_pow_pos (p - last).toNat; omega), hub⟩
  unfold Format.nearest
  rw [if_neg hm]
  simp only [← hlast, hk]
  generalize q * 2 ^ (p - last).toNat = k at hub hlb ⊢
  have hB : f.binade = 2 ^ f.fractionBits := rfl
  have hI : f.infRung = (2 ^ f.exponentBits - 1) * f.binade := rfl
  rw [Nat.pow_succ, ← hB] at hub
  rw [← hB] at hlb
  have hBp : 0 < f.binade := by rw [hB]; exact Nat.two_pow_pos _
  obtain ⟨u, hu⟩ : ∃ u, (last - f.leastPlace).toNat = u := ⟨_, rfl⟩
  rw [hu] at hr ⊢
  have hlt : u * f.binade + k < f.infRung := by
    rw [hI]
    calc u * f.binade + k < u * f.binade + 2 * f.binade := by omega
      _ = (u + 2) * f.binade := by rw [Nat.add_mul]
      _ ≤ (2 ^ f.exponentBits - 1) * f.binade := Nat.mul_le_mul_right _ (by omega)
  rw [Nat.min_eq_left (Nat.le_of_lt hlt), read_word f s hlt]
  rcases Nat.eq_zero_or_pos u with h0 | h0
  · subst h0
    have he : last = f.leastPlace := by omega
    rw [Nat.zero_mul, Nat.zero_add]
    split
    · rw [he]
    · rename_i hge
      have h1 : k / f.binade = 1 := by
        rw [Nat.div_eq_iff hBp]; omega
      have h2 : k % f.binade = k - f.binade := by rw [Nat.mod_eq_sub_mod (by omega), Nat.mod_eq_of_lt (by omega)]
      rw [h1, h2, he]
      simp
      omega
  · have hk1 := hlb (by omega)
    have h3 : ¬ (u * f.binade + k < f.binade) := by omega
    rw [if_neg h3]
    have h1 : (u * f.binade + k) / f.binade = u + 1 := by
      rw [Nat.mul_comm, Nat.mul_add_div hBp]
      have : k / f.binade = 1 := by rw [Nat.div_eq_iff hBp]; omega
      omega
    have h2 : (u * f.binade + k) % f.binade = k - f.binade := by
      rw [Nat.mul_comm, Nat.mul_add_mod, Nat.mod_eq_sub_mod (by omega), Nat.mod_eq_of_lt (by omega)]
    rw [h1, h2]
    have e1 : f.binade + (k - f.binade) = k := by omega
    have e2 : f.leastPlace + ((u + 1 - 1 : Nat) : Int) = last := by omega
    rw [e1, e2]
/-- Units of the least number of 64 bits. -/
def vm (m : Nat) (p : Int) : Nat := m * 2 ^ (p + 1074).toNat
def vs (s : Bool) (m : Nat) (p : Int) : Int := if s then -(vm m p : Int) else (vm m p : Int)
def U : Nat := 2 ^ ((0 : Int) + 1074).toNat
theorem U_pos : 0 < U := Nat.two_pow_pos _
theorem vm_zero (p : Int) : vm 0 p = 0 := Nat.zero_mul _
theorem vm_int (n : Nat) : vm n 0 = n * U := rfl
theorem vm_eq_zero {m : Nat} {p : Int} (h : vm m p = 0) : m = 0 := by
  unfold vm at h
  rcases Nat.mul_eq_zero.1 h with h | h
  · exact h
  · have := Nat.two_pow_pos (p + 1074).toNat; omega
theorem vm_shift {m : Nat} {p b : Int} (hb : -1074 ≤ b) (hp : b ≤ p) : vm m p = m * 2 ^ (p - b).toNat * 2 ^ (b + 1074).toNat := by
  unfold vm
  rw [Nat.mul_assoc, ← Nat.pow_add, show (p - b).toNat + (b + 1074).toNat = (p + 1074).toNat by omega]
theorem cmp_mul {a b c : Int} (hc : 0 < c) : compare (a * c) (b * c) = compare a b := by
  show compareOfLessAndEq (a * c) (b * c) = compareOfLessAndEq a b
  unfold compareOfLessAndEq
  have h1 : a * c < b * c ↔ a < b := ⟨fun h => Int.lt_of_mul_lt_mul_right h (Int.le_of_lt hc), fun h => Int.mul_lt_mul_of_pos_right h hc⟩
  have h2 : a * c = b * c ↔ a = b := ⟨fun h => Int.eq_of_mul_eq_mul_right (by omega) h, fun h => by rw [h]⟩
  simp only [h1, h2]
theorem order_val {s t : Bool} {m n : Nat} {i j : Int} (hi : -1074 ≤ i) (hj : -1074 ≤ j) : (Datum.number s m i).order (.number t n j) = some (compare (vs s m i) (vs t n j)) := by
  have hb : -1074 ≤ min i j := by omega
  have hc : (0 : Int) < ((2 ^ (min i j + 1074).toNat : Nat) : Int) := by have := Nat.two_pow_pos (min i j + 1074).toNat; omega
  have key : ∀ (s : Bool) (m : Nat) (i' : Int), min i j ≤ i' → vs s m i' = signed s m (i' - min i j).toNat * ((2 ^ (min i j + 1074).toNat : Nat) : Int) := by
    intro s m i' hle
    unfold vs signed
    rw [vm_shift hb hle, Nat.shiftLeft_eq]
    cases s
    · simp
    · simp only [if_true]; rw [Int.neg_mul]; simp
  show some (compare (signed s m (i - min i j).toNat) (signed t n (j - min i j).toNat)) = _
  rw [key s m i (by omega), key t n j (by omega), cmp_mul hc]
theorem log2_mul {k : Nat} (hk : k ≠ 0) (n : Nat) : (k * 2 ^ n).log2 = k.log2 + n := by
  have hp := Nat.two_pow_pos n
  rw [Nat.log2_eq_iff (Nat.mul_ne_zero hk (by omega)), Nat.pow_add, show 2 ^ (k.log2 + n + 1) = 2 ^ (k.log2 + 1) * 2 ^ n by rw [← Nat.pow_add]; congr 1; omega]
  exact ⟨Nat.mul_le_mul_right _ (Nat.log2_self_le hk), Nat.mul_lt_mul_of_pos_right (log2_lt k) hp⟩
/-- Whatever has the value of a number that the format has is written exactly. -/
theorem write_rep (f : Format) (s : Bool) {k m : Nat} {p e : Int} (hp : -1074 ≤ p) (hl : -1074 ≤ f.leastPlace) (he : f.leastPlace ≤ e) (hm : m < 2 ^ (f.fractionBits + 1)) (hv : vm k p = vm m e) (hE : (e - f.leastPlace).toNat + 2 < 2 ^ f.exponentBits) :
    ∃ k' p', f.read (f.write (.number s k p)) = .number s k' p' ∧ f.leastPlace ≤ p' ∧ vm k' p' = vm k p ∧ k' < 2 ^ (f.fractionBits + 1) ∧ p' ≤ e := by
  show ∃ k' p', f.read (f.nearest s k p) = .number s k' p' ∧ f.leastPlace ≤ p' ∧ vm k' p' = vm k p ∧ k' < 2 ^ (f.fractionBits + 1) ∧ p' ≤ e
  by_cases hk : k = 0
  · subst hk
    refine ⟨0, f.leastPlace, ?_, Int.le_refl _, by rw [vm_zero, vm_zero], Nat.two_pow_pos _, he⟩
    unfold Format.nearest
    rw [if_pos rfl, read_word f s (by
      show 0 < (2 ^ f.exponentBits - 1) * f.binade
      exact Nat.mul_pos (by omega) (Nat.two_pow_pos _)), if_pos (show 0 < f.binade from Nat.two_pow_pos _)]
  · have hm0 : m ≠ 0 := by
      intro h
      subst h
      rw [vm_zero] at hv
      exact hk (vm_eq_zero hv)
    have hlog : p + (k.log2 : Int) = e + m.log2 := by
      have h1 : vm k p = k * 2 ^ (p + 1074).toNat := rfl
      have h2 : vm m e = m * 2 ^ (e + 1074).toNat := rfl
      have g1 : (vm k p).log2 = k.log2 + (p + 1074).toNat := by
        rw [h1, log2_mul hk]
      have g2 : (vm m e).log2 = m.log2 + (e + 1074).toNat := by
        rw [h2, log2_mul hm0]
      rw [hv, g2] at g1
      omega
    have hm1 : m.log2 < f.fractionBits + 1 := (Nat.log2_lt hm0).2 hm
    obtain ⟨last, hlast⟩ : ∃ last, last = max (p + (k.log2 : Int) - f.fractionBits) f.leastPlace := ⟨_, rfl⟩
    have hle : last ≤ e := by omega
    have hd : 2 ^ (last - p).toNat ∣ k := by
      rcases Int.lt_or_le p last with h | h
      · have h1 : k * 2 ^ (p + 1074).toNat = m * 2 ^ (e - p).toNat * 2 ^ (p + 1074).toNat := by
          have := vm_shift (m := m) (p := e) (b := p) hp (by omega)
          rw [← this, ← hv]; rfl
        have h2 : k = m * 2 ^ (e - p).toNat := Nat.eq_of_mul_eq_mul_right (Nat.two_pow_pos _) h1
        rw [h2, show (e - p).toNat = (e - last).toNat + (last - p).toNat by omega, Nat.pow_add]
        exact ⟨m * 2 ^ (e - last).toNat, by ac_rfl⟩
      · rw [show (last - p).toNat = 0 by omega]; exact Nat.one_dvd _
    obtain ⟨k', h1, h2, h3, h4⟩ := near_exact f s k p last hlast hk hd (by omega)
    refine ⟨k', last, h1, by omega, ?_, h4, hle⟩
    rcases Int.lt_or_le p last with h | h
    · rw [vm_shift (m := k') (p := last) (b := p) hp (by omega), h2, show (p - last).toNat = 0 by omega]
      simp [vm]
    · rw [vm_shift (m := k) (p := p) (b := last) (by omega) h, ← h2, show (last - p).toNat = 0 by omega]
      simp [vm]
theorem cut_zero (s : Bool) (n d : Nat) : Toward.zero.cut s n d = n / 2 ^ d := by
  unfold Toward.cut
  simp only [Bool.toNat_false, Nat.add_zero, Nat.one_shiftLeft]
  rcases Nat.le_total d (n.log2 + 2) with h | h
  · rw [Nat.min_eq_left h]
  · rw [Nat.min_eq_right h]
    have h1 := log2_lt n
    have h2 : n < 2 ^ (n.log2 + 2) := Nat.lt_of_lt_of_le h1 (Nat.pow_le_pow_right (by omega) (by omega))
    have h3 : n < 2 ^ d := Nat.lt_of_lt_of_le h2 (Nat.pow_le_pow_right (by omega) h)
    rw [Nat.div_eq_of_lt h2, Nat.div_eq_of_lt h3]
/-- What a number is cut to. -/
theorem integral_zero (s : Bool) (m : Nat) {p : Int} (hp : -1074 ≤ p) : (Datum.number s m p).integral .zero = .number s (vm m p / U) 0 := by
  show Datum.number s (Toward.zero.cut s (m <<< p.toNat) (-p).toNat) 0 = _
  rw [cut_zero, Nat.shiftLeft_eq]
  congr 1
  unfold vm U
  rcases Int.le_total 0 p with h | h
  · rw [show (-p).toNat = 0 by omega, show (p + 1074).toNat = p.toNat + ((0 : Int) + 1074).toNat by omega, Nat.pow_add, ← Nat.mul_assoc, Nat.mul_div_cancel _ (Nat.two_pow_pos _)]
    simp
  · have h1 : ((0 : Int) + 1074).toNat = (-p).toNat + (p + 1074).toNat := by omega
    rw [show p.toNat = 0 by omega, h1, Nat.pow_add, Nat.mul_div_mul_right _ _ (Nat.two_pow_pos _)]
    simp
attribute [irreducible] U vm
end Ex
end Go.Proofs.Ytlimabbeaimdgaa
