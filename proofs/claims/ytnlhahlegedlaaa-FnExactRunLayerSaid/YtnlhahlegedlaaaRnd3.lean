/- Singles: a number less another one that it is not greater than; e to the power of it; square roots; hyperbolic tangents. -/
import Derived.Test.YtnlhahlegedlaaaRnd2
namespace Go.Proofs.Ytnlhahlegedlaaa
set_option linter.unusedSimpArgs false
set_option linter.unusedVariables false
open Rnd

/-- A single that is not above 0, or no number. -/
def NonPos (y : Nat) : Prop := (FloatKind.f32.decode y).isNaN = true ∨ FloatKind.f32.decode y = .infinity true ∨ ∃ s v, Fin Ieee.single y s v ∧ (s = true ∨ v = 0)
theorem read_inf (s : Bool) : FloatKind.f32.decode (Ieee.single.write (.infinity s)) = .infinity s := by cases s <;> decide +kernel
theorem read_inf64 (s : Bool) : FloatKind.f64.decode (Ieee.double.write (.infinity s)) = .infinity s := by cases s <;> decide +kernel
theorem sgl_write (s : Bool) (m : Nat) {e : Int} (he : -4000 ≤ e) : Ieee.single.write (.number s m e) = Ieee.single.write (.infinity s) ∨ ∃ v, Fin Ieee.single (Ieee.single.write (.number s m e)) s v ∧ (m = 0 → v = 0) := by
  have h1 := nearest_cnt Ieee.single ok_single s m he
  have h2 : rung Ieee.single (Lo Ieee.single) (cnt m e) ≤ (Ieee.single).infRung := by
    unfold rung; split
    · exact Nat.zero_le _
    · exact Nat.min_le_right _ _
  rcases Nat.lt_or_eq_of_le h2 with h | h
  · refine .inr ⟨_, fin_write Ieee.single ok_single s m he h, ?_⟩
    rintro rfl
    unfold cnt
    rw [Nat.zero_mul]; exact rd_zero _
  · left
    show (Ieee.single).nearest s m e = _
    rw [h1, h]; rfl
theorem nan_pos {y : Nat} (h : (FloatKind.f32.decode y).isNaN = true) : NonPos y := .inl h
theorem fop_inf {x m : Nat} {s t u : Bool} {d e : Ieee.Datum} (hx : FloatKind.f32.decode x = d) (hm : FloatKind.f32.decode m = e) (h : d.sum e.opposite = some (.infinity u)) : FloatKind.f32.decode (fop .sub .f32 x m) = .infinity u := by
  subst hx hm
  rw [fop_of (r := Ieee.single.write (.infinity u)) ?_]
  · exact read_inf u
  · show ((FloatKind.f32.decode x).sum (FloatKind.f32.decode m).opposite).map _ = _
    rw [h]; rfl
theorem fop_none {x m : Nat} {d e : Ieee.Datum} (hx : FloatKind.f32.decode x = d) (hm : FloatKind.f32.decode m = e) (h : d.sum e.opposite = none) : NonPos (fop .sub .f32 x m) := by
  subst hx hm
  left
  have : floatBits .sub .f32 x m = none := by
    show ((FloatKind.f32.decode x).sum (FloatKind.f32.decode m).opposite).map _ = _
    rw [h]; rfl
  unfold fop
  rw [this]
  exact isNaN_nanB .f32
theorem sub_neg {x m : Nat} (h : fgt .f32 x m = false) : NonPos (fop .sub .f32 x m) := by
  have ho : ¬ (FloatKind.f32.decode x).order (FloatKind.f32.decode m) = some .gt := by
    intro hc
    have : FloatKind.f32.format.order x m = some .gt := hc
    unfold fgt at h; rw [this] at h; cases h
  rcases sgl_cases x with hx | ⟨s, hx⟩ | ⟨s, v, hx⟩
  · exact fop_none rfl rfl (sum_nan_l hx)
  · rcases sgl_cases m with hm | ⟨t, hm⟩ | ⟨t, w, hm⟩
    · exact fop_none rfl rfl (sum_nan_r (opp_nan hm))
    · rw [hx, hm] at ho
      cases s <;> cases t
      · exact fop_none hx hm rfl
      · exact absurd rfl ho
      · exact .inr (.inl (fop_inf (s := true) (t := true) hx hm rfl))
      · exact fop_none hx hm rfl
    · obtain ⟨n, j, h3, h4, rfl⟩ := hm
      have hm : FloatKind.f32.decode m = .number t n j := h3
      rw [hx, hm] at ho
      cases s
      · exact absurd rfl ho
      · exact .inr (.inl (fop_inf (s := true) (t := true) hx hm rfl))
  · obtain ⟨k, i, h1, h2, rfl⟩ := hx
    have hx : FloatKind.f32.decode x = .number s k i := h1
    rcases sgl_cases m with hm | ⟨t, hm⟩ | ⟨t, w, hm⟩
    · exact fop_none rfl rfl (sum_nan_r (opp_nan hm))
    · rw [hx, hm] at ho
      cases t
      · exact .inr (.inl (fop_inf (s := true) (t := true) hx hm rfl))
      · exact absurd rfl ho
    · obtain ⟨n, j, h3, h4, rfl⟩ := hm
      have hm : FloatKind.f32.decode m = .number t n j := h3
      rw [hx, hm] at ho
      have hlp : (Ieee.single).leastPlace = -149 := by decide
      rw [hlp] at h2 h4
      have hT : Ieee.signed s k (i - min i j).toNat + Ieee.signed (!t) n (j - min i j).toNat ≤ 0 := by
        simp only [Ieee.Datum.order, Option.some.injEq] at ho
        have e1 : Ieee.signed (!t) n (j - min i j).toNat = - Ieee.signed t n (j - min i j).toNat := by
          unfold Ieee.signed; cases t <;> simp
        rw [e1]
        generalize Ieee.signed s k (i - min i j).toNat = A at *
        generalize Ieee.signed t n (j - min i j).toNat = B at *
        refine Int.not_lt.1 fun hlt => ho ?_
        exact Int.compare_eq_gt.2 (by omega)
      have hr : fop .sub .f32 x m = Ieee.single.write (.number (if Ieee.signed s k (i - min i j).toNat + Ieee.signed (!t) n (j - min i j).toNat = 0 then s && !t else decide (Ieee.signed s k (i - min i j).toNat + Ieee.signed (!t) n (j - min i j).toNat < 0)) (Ieee.signed s k (i - min i j).toNat + Ieee.signed (!t) n (j - min i j).toNat).natAbs (min i j)) := by
        refine fop_of ?_
        show ((FloatKind.f32.decode x).sum (FloatKind.f32.decode m).opposite).map _ = _
        rw [hx, hm]; rfl
      rw [hr]
      generalize Ieee.signed s k (i - min i j).toNat + Ieee.signed (!t) n (j - min i j).toNat = T at *
      rcases sgl_write (if T = 0 then s && !t else decide (T < 0)) T.natAbs (e := min i j) (by omega) with h5 | ⟨v, h5, h6⟩
      · by_cases h0 : T = 0
        · subst h0
          exfalso
          have h7 := congrArg (FloatKind.f32.decode) h5
          rw [read_inf] at h7
          have h8 := single_writep (if (0 : Int) = 0 then s && !t else decide ((0 : Int) < 0)) 0 (e := min i j) (by omega) (by unfold cnt; rw [Nat.zero_mul]; exact Nat.zero_le _)
          have h9 : FloatKind.f32.decode (Ieee.single.write (.number (if (0 : Int) = 0 then s && !t else decide ((0 : Int) < 0)) 0 (min i j))) = Ieee.single.read (Ieee.single.write (.number (if (0 : Int) = 0 then s && !t else decide ((0 : Int) < 0)) 0 (min i j))) := rfl
          rw [← h9] at h8
          rw [show (0 : Int).natAbs = 0 from rfl] at h7
          rw [h7] at h8; cases h8
        · rw [if_neg h0, decide_eq_true (by omega)] at h5 ⊢
          rw [h5]
          exact .inr (.inl (read_inf true))
      · refine .inr (.inr ⟨_, v, h5, ?_⟩)
        by_cases h0 : T = 0
        · right; exact h6 (by subst h0; rfl)
        · left; rw [if_neg h0, decide_eq_true (by omega)]

/-- The bounds that the program asks. -/
def c200 : Nat := 1128792064
def n200 : Nat := 3276275712
def c20 : Nat := 1101004800
def n20 : Nat := 3248488448
theorem fin_c (x : Nat) (s : Bool) (m : Nat) (e : Int) (h : Ieee.single.read x = .number s m e) (he : -149 ≤ e) : Fin Ieee.single x s (cnt m e) := ⟨m, e, h, by rw [show (Ieee.single).leastPlace = -149 from by decide]; exact he, rfl⟩
theorem c200_pw : cnt 13107200 (-16) = 200 * pw 4000 := cnt_pw2 13107200 (-16) 3984 16 200 rfl (by decide) (by decide)
theorem c20_pw : cnt 10485760 (-19) = 20 * pw 4000 := cnt_pw2 10485760 (-19) 3981 19 20 rfl (by decide) (by decide)
theorem f_c200 : Fin Ieee.single c200 false (200 * pw 4000) := by
  rw [← c200_pw]; exact fin_c c200 false 13107200 (-16) (by decide +kernel) (by decide)
theorem f_n200 : Fin Ieee.single n200 true (200 * pw 4000) := by
  rw [← c200_pw]; exact fin_c n200 true 13107200 (-16) (by decide +kernel) (by decide)
theorem f_c20 : Fin Ieee.single c20 false (20 * pw 4000) := by
  rw [← c20_pw]; exact fin_c c20 false 10485760 (-19) (by decide +kernel) (by decide)
theorem f_n20 : Fin Ieee.single n20 true (20 * pw 4000) := by
  rw [← c20_pw]; exact fin_c n20 true 10485760 (-19) (by decide +kernel) (by decide)
theorem pow_le_of {c k : Nat} (h : c ≤ 2 ^ k) : c * pw 4000 ≤ pw (4000 + k) := by
  rw [Nat.add_comm 4000 k, pw_add k 4000]; exact Nat.mul_le_mul_right _ h
theorem not_lt_fin {x c : Nat} {s : Bool} {v C : Nat} (hx : Fin Ieee.single x s v) (hc : Fin Ieee.single c true C) (h : flt .f32 x c = false) : s = false ∨ v ≤ C := by
  have ho : Ieee.single.order x c = some (compare (sg s v) (sg true C)) := fin_order ok_single hx hc
  have ho' : FloatKind.f32.format.order x c = some (compare (sg s v) (sg true C)) := ho
  unfold flt at h
  rw [ho'] at h
  cases s
  · exact .inl rfl
  · right
    refine Nat.le_of_not_lt fun hlt => ?_
    have : compare (sg true v) (sg true C) = .lt := Int.compare_eq_lt.2 (by unfold sg; simp; exact hlt)
    rw [this] at h; cases h
theorem not_gt_fin {x c : Nat} {s : Bool} {v C : Nat} (hx : Fin Ieee.single x s v) (hc : Fin Ieee.single c false C) (h : fgt .f32 x c = false) : s = true ∨ v ≤ C := by
  have ho : Ieee.single.order x c = some (compare (sg s v) (sg false C)) := fin_order ok_single hx hc
  have ho' : FloatKind.f32.format.order x c = some (compare (sg s v) (sg false C)) := ho
  unfold fgt at h
  rw [ho'] at h
  cases s
  · right
    refine Nat.le_of_not_lt fun hlt => ?_
    have : compare (sg false v) (sg false C) = .gt := Int.compare_eq_gt.2 (by unfold sg; simp; exact hlt)
    rw [this] at h; cases h
  · exact .inl rfl

/-- e to the power of a single. -/
def expF (x : Nat) : Nat := if fgt .f32 x c200 then 2139095040 else if flt .f32 x n200 then 0 else fconv .f64 (expD (fconv .f32 x .f64)) .f32
theorem inf_lt {x c : Nat} {C : Nat} {s : Bool} (hx : FloatKind.f32.decode x = .infinity true) (hc : Fin Ieee.single c s C) : flt .f32 x c = true := by
  obtain ⟨m, e, h1, h2, rfl⟩ := hc
  have hc : FloatKind.f32.decode c = .number s m e := h1
  have : FloatKind.f32.format.order x c = some .lt := by
    show (FloatKind.f32.decode x).order (FloatKind.f32.decode c) = _
    rw [hx, hc]; rfl
  unfold flt; rw [this]; rfl
theorem inf_gt {x c : Nat} {C : Nat} {s : Bool} (hx : FloatKind.f32.decode x = .infinity false) (hc : Fin Ieee.single c s C) : fgt .f32 x c = true := by
  obtain ⟨m, e, h1, h2, rfl⟩ := hc
  have hc : FloatKind.f32.decode c = .number s m e := h1
  have : FloatKind.f32.format.order x c = some .gt := by
    show (FloatKind.f32.decode x).order (FloatKind.f32.decode c) = _
    rw [hx, hc]; rfl
  unfold fgt; rw [this]; rfl
theorem exp_over {x : Nat} (h : NonPos x) (h2 : flt .f32 x n200 = false) : fover .f64 (expD (fconv .f32 x .f64)) .f32 = false := by
  rcases h with h | h | ⟨s, v, h, h3⟩
  · rw [widen_nan h, expD_nan (isNaN_nanB .f64)]; exact over_nan (isNaN_nanB .f64)
  · rw [inf_lt h f_n200] at h2; cases h2
  · have hv : v ≤ pw 4008 := by
      rcases h3 with rfl | rfl
      · rcases not_lt_fin h f_n200 h2 with h4 | h4
        · cases h4
        · exact Nat.le_trans h4 (pow_le_of (k := 8) (by decide))
      · exact Nat.zero_le _
    obtain ⟨u, h5, h6⟩ := exp_neg (d_widen h) hv h3
    exact over_fin h5 (Nat.le_trans h6 (pw_le (by decide)))
theorem nonpos_gt {x : Nat} (h : NonPos x) : fgt .f32 x c200 = false := by
  rcases h with h | h | ⟨s, v, h, h3⟩
  · unfold fgt
    have : FloatKind.f32.format.order x c200 = none := by
      show (FloatKind.f32.decode x).order _ = _
      exact order_nan_l h
    rw [this]; rfl
  · unfold fgt
    have : FloatKind.f32.format.order x c200 = some .lt := by
      show (FloatKind.f32.decode x).order (FloatKind.f32.decode c200) = _
      rw [h, show FloatKind.f32.decode c200 = .number false 13107200 (-16) from by decide +kernel]; rfl
    rw [this]; rfl
  · have ho : FloatKind.f32.format.order x c200 = some (compare (sg s v) (sg false (200 * pw 4000))) := fin_order ok_single h f_c200
    unfold fgt
    rw [ho]
    have hp := pw_pos 4000
    have : compare (sg s v) (sg false (200 * pw 4000)) = .lt := by
      refine Int.compare_eq_lt.2 ?_
      generalize pw 4000 = P at *
      unfold sg
      rcases h3 with rfl | rfl
      · simp only [if_true, Bool.false_eq_true, if_false]; omega
      · cases s <;> simp <;> omega
    rw [this]; rfl

/-- Hyperbolic tangent of a single. -/
def twoD : Nat := 4611686018427387904
theorem d_two : Dbl twoD false (pw 4001) := by
  exact ⟨4503599627370496, -51, by decide +kernel, by decide, (cnt_pw 4503599627370496 (-51) 3949 52 1 (by decide) (by decide)).trans (Nat.one_mul _)⟩
def tanW (x : Nat) : Nat := fop .mul .f64 twoD (fconv .f32 x .f64)
def tanF (x : Nat) : Nat := if fgt .f32 x c20 then 1065353216 else if flt .f32 x n20 then 3212836864 else fconv .f64 (tanhD (expD (tanW x))) .f32
theorem tanW_cases {x : Nat} (h1 : fgt .f32 x c20 = false) (h2 : flt .f32 x n20 = false) : tanW x = nanB .f64 ∨ ∃ s v, Dbl (tanW x) s v ∧ v ≤ pw 4006 := by
  rcases sgl_cases x with hx | ⟨s, hx⟩ | ⟨s, v, hx⟩
  · left
    unfold tanW
    rw [widen_nan hx]
    simp [fop, floatBits_nan_r (isNaN_nanB .f64)]
  · exfalso
    cases s
    · rw [inf_gt hx f_c20] at h1; cases h1
    · rw [inf_lt hx f_n20] at h2; cases h2
  · right
    have hv : v ≤ 20 * pw 4000 := by
      rcases not_lt_fin hx f_n20 h2 with rfl | h
      · rcases not_gt_fin hx f_c20 h1 with h | h
        · cases h
        · exact h
      · exact h
    obtain ⟨u, h3, h4, _⟩ := d_mul d_two (d_widen hx) (Nat.le_refl _) (Nat.le_trans hv (pow_le_of (k := 5) (by decide))) (by omega) (by omega)
    exact ⟨_, u, h3, h4⟩
theorem tanh_over {x : Nat} (h1 : fgt .f32 x c20 = false) (h2 : flt .f32 x n20 = false) : fover .f64 (tanhD (expD (tanW x))) .f32 = false := by
  rcases tanW_cases h1 h2 with h | ⟨s, v, h, hv⟩
  · rw [h, expD_nan (isNaN_nanB .f64)]
    refine over_nan ?_
    unfold tanhD
    have : fop .sub .f64 (nanB .f64) oneD = nanB .f64 := by simp [fop, floatBits_nan_l (isNaN_nanB .f64)]
    rw [this]
    simp [fop, floatBits_nan_l (isNaN_nanB .f64), isNaN_nanB]
  · obtain ⟨u, h3, h4⟩ := exp_mid h hv
    obtain ⟨s, r, h5, h6⟩ := tanh_le h3 h4
    exact over_fin h5 (Nat.le_trans h6 (pw_le (by decide)))
/-- The wide numbers that the wide power is asked of. -/
def C200 : Nat := 4641240890982006784
def N200 : Nat := 13864612927836782592
theorem C200_eq : fconv .f32 c200 .f64 = C200 := by decide +kernel
theorem N200_eq : fconv .f32 n200 .f64 = N200 := by decide +kernel
theorem gt_widen (x : Nat) : fgt .f64 (fconv .f32 x .f64) C200 = fgt .f32 x c200 := by unfold fgt; rw [← C200_eq, order_widen]
theorem lt_widen (x : Nat) : flt .f64 (fconv .f32 x .f64) N200 = flt .f32 x n200 := by unfold flt; rw [← N200_eq, order_widen]
theorem tanW_gt {x : Nat} (h1 : fgt .f32 x c20 = false) (h2 : flt .f32 x n20 = false) : fgt .f64 (tanW x) C200 = false ∧ flt .f64 (tanW x) N200 = false := by
  rcases tanW_cases h1 h2 with h | ⟨s, v, h, hv⟩
  · rw [h]; decide +kernel
  · have hC := d_widen f_c200
    have hN := d_widen f_n200
    rw [C200_eq] at hC
    rw [N200_eq] at hN
    have o1 : FloatKind.f64.format.order (tanW x) C200 = some (compare (sg s v) (sg false (200 * pw 4000))) := fin_order ok_double h hC
    have o2 : FloatKind.f64.format.order (tanW x) N200 = some (compare (sg s v) (sg true (200 * pw 4000))) := fin_order ok_double h hN
    have hv2 : v ≤ 64 * pw 4000 := by
      have : (64 : Nat) * pw 4000 = pw 4006 := by rw [show (64 : Nat) = pw 6 from rfl]; exact pw_split 6 4000 rfl
      rw [this]; exact hv
    have hp := pw_pos 4000
    unfold fgt flt
    rw [o1, o2]
    generalize pw 4000 = P at *
    have e1 : compare (sg s v) (sg false (200 * P)) = .lt := Int.compare_eq_lt.2 (by unfold sg; cases s <;> simp <;> omega)
    have e2 : compare (sg s v) (sg true (200 * P)) = .gt := Int.compare_eq_gt.2 (by unfold sg; cases s <;> simp <;> omega)
    rw [e1, e2]; exact ⟨rfl, rfl⟩

/-- Square roots. -/
def fsqrt (k : FloatKind) (x : Nat) : Nat := (k.format.sqrt x).getD (nanB k)
theorem rootFrom_lt (n : Nat) : ∀ k r, Ieee.Datum.rootFrom n k r < r + 2 ^ k := by
  intro k
  induction k with
  | zero => intro r; show r < r + 1; omega
  | succ k ih =>
    intro r
    show Ieee.Datum.rootFrom n k (if (r + 1 <<< k) * (r + 1 <<< k) ≤ n then r + 1 <<< k else r) < _
    have h1 : 1 <<< k = 2 ^ k := by rw [Nat.shiftLeft_eq, Nat.one_mul]
    rw [h1, Nat.pow_succ]
    have := ih (if (r + 2 ^ k) * (r + 2 ^ k) ≤ n then r + 2 ^ k else r)
    by_cases hc : (r + 2 ^ k) * (r + 2 ^ k) ≤ n
    · rw [if_pos hc] at this ⊢; omega
    · rw [if_neg hc] at this ⊢; omega
theorem sqrt_over (x : Nat) : fover .f64 (fsqrt .f64 (fconv .f32 x .f64)) .f32 = false := by
  have hN : ∀ y : Nat, FloatKind.f64.format.sqrt y = none → fover .f64 (fsqrt .f64 y) .f32 = false := fun y h => by
    unfold fsqrt; rw [h]; exact over_nan (isNaN_nanB .f64)
  rcases sgl_cases x with hx | ⟨s, hx⟩ | ⟨s, v, hx⟩
  · rw [widen_nan hx]
    exact hN _ (by decide +kernel)
  · have h := widen_inf hx
    generalize fconv .f32 x .f64 = y at *
    cases s
    · have : FloatKind.f64.format.sqrt y = some (Ieee.double.write (.infinity false)) := by
        show ((FloatKind.f64.decode y).root _).map _ = _
        rw [h]; rfl
      unfold fsqrt; rw [this]
      exact over_inf (read_inf64 false)
    · exact hN _ (by show ((FloatKind.f64.decode y).root _).map _ = _; rw [h]; rfl)
  · have h := d_widen hx
    have hv : v < pw 4128 := by
      obtain ⟨m, e, h1, _, rfl⟩ := hx
      obtain ⟨h1, h2, h3⟩ := sgl_read h1
      unfold cnt
      calc m * 2 ^ (e + 4000).toNat < 2 ^ 24 * 2 ^ (e + 4000).toNat := Nat.mul_lt_mul_of_pos_right (by omega) (Nat.two_pow_pos _)
        _ = 2 ^ (24 + (e + 4000).toNat) := by rw [← Nat.pow_add]
        _ ≤ pw 4128 := pw_le (by omega)
    generalize fconv .f32 x .f64 = y at *
    obtain ⟨m, i, h1, h2, rfl⟩ := h
    obtain ⟨h3, h4, h5⟩ := dbl_read h1
    have hd : FloatKind.f64.decode y = .number s m i := h1
    by_cases hm : m = 0
    · subst hm
      have : FloatKind.f64.format.sqrt y = some (Ieee.double.write (.number s 0 i)) := by
        show ((FloatKind.f64.decode y).root _).map _ = _
        rw [hd]; rfl
      unfold fsqrt; rw [this]
      have hw := dbl_writep s 0 (e := i) (by omega) (by unfold cnt; rw [Nat.zero_mul]; exact Nat.zero_le _)
      refine over_fin hw ?_
      unfold cnt; rw [Nat.zero_mul, rd_zero]; exact Nat.zero_le _
    · cases s
      · have hlog : m.log2 < 53 := (Nat.log2_lt hm).2 (by omega)
        have hself : 2 ^ m.log2 ≤ m := Nat.log2_self_le hm
        have hi : (m.log2 : Int) + i ≤ 127 := by
          unfold cnt at hv
          have h6 : pw (m.log2 + (i + 4000).toNat) < pw 4128 := by
            rw [pw_add]; exact Nat.lt_of_le_of_lt (Nat.mul_le_mul_right _ hself) hv
          have h7 := pw_lt h6
          omega
        obtain ⟨p, hp, hp1⟩ : ∃ p : Nat, p = 2 * 54 - m.log2 + ((i - ((2 * 54 - m.log2 : Nat) : Int)) % 2).toNat ∧ 2 * 54 - m.log2 ≤ p ∧ p ≤ 2 * 54 - m.log2 + 1 := ⟨_, rfl, by omega, by omega⟩
        have hr : FloatKind.f64.format.sqrt y = some (Ieee.double.write (.number false (2 * Ieee.Datum.rootFrom (m <<< p) ((m <<< p).log2 / 2 + 1) 0 + (Ieee.Datum.rootFrom (m <<< p) ((m <<< p).log2 / 2 + 1) 0 * Ieee.Datum.rootFrom (m <<< p) ((m <<< p).log2 / 2 + 1) 0 != m <<< p).toNat) ((i - p) / 2 - 1))) := by
          show ((FloatKind.f64.decode y).root (52 + 2)).map _ = _
          rw [hd]
          unfold Ieee.Datum.root
          simp only [hm, if_false, Bool.false_eq_true]
          rw [hp]; rfl
        unfold fsqrt; rw [hr]
        have hl : (m <<< p).log2 = m.log2 + p := by rw [Nat.shiftLeft_eq, log2_mul_pow hm]
        have hw := rootFrom_lt (m <<< p) ((m <<< p).log2 / 2 + 1) 0
        rw [hl] at hw ⊢
        rw [Nat.zero_add] at hw
        have hw2 : (2 : Nat) ^ ((m.log2 + p) / 2 + 1) ≤ 2 ^ 55 := Nat.pow_le_pow_right (by decide) (by omega)
        generalize Ieee.Datum.rootFrom (m <<< p) ((m.log2 + p) / 2 + 1) 0 = W at *
        have hb : (W * W != m <<< p).toNat ≤ 1 := toNat_le _
        generalize (W * W != m <<< p).toNat = B at *
        have hc : cnt (2 * W + B) ((i - p) / 2 - 1) ≤ pw 4127 := by
          unfold cnt
          have hq : 2 * W + B ≤ 2 ^ 56 := by
            have : (2 : Nat) ^ 56 = 2 * 2 ^ 55 := by decide
            omega
          refine Nat.le_trans (Nat.mul_le_mul_right _ hq) ?_
          rw [← Nat.pow_add]
          exact pw_le (by omega)
        have hf := dbl_writep false (2 * W + B) (e := (i - p) / 2 - 1) (by omega) (Nat.le_trans hc (pw_le (by decide)))
        exact over_fin hf (rd_lep (by omega) (by omega) hc)
      · exact hN _ (by show ((FloatKind.f64.decode y).root _).map _ = _; rw [hd]; simp [Ieee.Datum.root, hm])
end Go.Proofs.Ytnlhahlegedlaaa
