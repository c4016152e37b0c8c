/- The exponential function and the hyperbolic tangent as the program makes them: bounds that keep them from being too great for a float32. -/
import Derived.Test.YtnlhahlegedlaaaFl
import Derived.Test.YtnlhahlegedlaaaRnd
namespace Go.Proofs.Ytnlhahlegedlaaa
set_option linter.unusedSimpArgs false
set_option linter.unusedVariables false
open Rnd

theorem fmt64 : FloatKind.f64.format = Ieee.double := rfl
theorem fmt32 : FloatKind.f32.format = Ieee.single := rfl
/-- A power of two, hidden: so nothing counts it out. -/
def pw (k : Nat) : Nat := 2 ^ k
theorem pw_pos (k : Nat) : 0 < pw k := Nat.two_pow_pos k
theorem pw_add (a b : Nat) : pw (a + b) = pw a * pw b := Nat.pow_add 2 a b
theorem pw_le {a b : Nat} (h : a ≤ b) : pw a ≤ pw b := Nat.pow_le_pow_right (by decide) h
theorem pw_split (a b : Nat) {c : Nat} (h : a + b = c) : pw a * pw b = pw c := by subst h; exact (pw_add a b).symm
theorem pw_two (a : Nat) {c : Nat} (h : c = a + 1) : pw c = 2 * pw a := by subst h; rw [pw_add, Nat.mul_comm]; rfl
theorem rd_lep {V k : Nat} (h1 : 2978 ≤ k) (h2 : k ≤ 5023) (h : V ≤ pw k) : rd Ieee.double V ≤ pw k := rd_le h1 h2 h
theorem le_rdp {V k : Nat} (h1 : 2978 ≤ k) (h2 : k ≤ 5023) (h : pw k ≤ V) : pw k ≤ rd Ieee.double V := le_rd h1 h2 h
theorem dbl_writep (s : Bool) (m : Nat) {e : Int} (he : -4000 ≤ e) (h : cnt m e ≤ pw 5023) : Fin Ieee.double (Ieee.double.write (.number s m e)) s (rd Ieee.double (cnt m e)) := by
  unfold pw at h; exact dbl_write s m he h
theorem single_writep (s : Bool) (m : Nat) {e : Int} (he : -4000 ≤ e) (h : cnt m e ≤ pw 4127) : (Ieee.single.read (Ieee.single.write (.number s m e))).isInfinity = false := by
  unfold pw at h; exact single_write s m he h
theorem pw_lt {a b : Nat} (h : pw a < pw b) : a < b := Nat.lt_of_not_le fun hc => Nat.lt_irrefl _ (Nat.lt_of_lt_of_le h (pw_le hc))
theorem cnt_pw (m : Nat) (e : Int) (k c d : Nat) (h1 : (e + 4000).toNat = k) (h2 : m = d * 2 ^ c) : cnt m e = d * pw (c + k) := by
  unfold cnt; rw [h1, h2, pw_add, Nat.mul_assoc]; rfl
theorem cnt_pw2 (m : Nat) (e : Int) (k c d : Nat) {K : Nat} (hK : c + k = K) (h1 : (e + 4000).toNat = k) (h2 : m = d * 2 ^ c) : cnt m e = d * pw K := by
  subst hK; exact cnt_pw m e k c d h1 h2
/-- The double is finite, of this sign and magnitude. -/
abbrev Dbl (x : Nat) (s : Bool) (v : Nat) : Prop := Fin Ieee.double x s v
theorem fop_of {op : BinOp} {k : FloatKind} {x y r : Nat} (h : floatBits op k x y = some r) : fop op k x y = r := by simp [fop, h]
theorem d_add {x y : Nat} {s t : Bool} {v w : Nat} (hx : Dbl x s v) (hy : Dbl y t w) (hb : (sg s v + sg t w).natAbs ≤ pw 5023) :
    Dbl (fop .add .f64 x y) (if sg s v + sg t w = 0 then s && t else decide (sg s v + sg t w < 0)) (rd Ieee.double (sg s v + sg t w).natAbs) := by
  unfold pw at hb
  obtain ⟨r, h1, h2⟩ := dbl_add hx hy hb
  rw [fop_of (show floatBits .add .f64 x y = some r from h1)]; exact h2
theorem d_sub {x y : Nat} {s t : Bool} {v w : Nat} (hx : Dbl x s v) (hy : Dbl y t w) (hb : (sg s v + sg (!t) w).natAbs ≤ pw 5023) :
    Dbl (fop .sub .f64 x y) (if sg s v + sg (!t) w = 0 then s && !t else decide (sg s v + sg (!t) w < 0)) (rd Ieee.double (sg s v + sg (!t) w).natAbs) := by
  unfold pw at hb
  obtain ⟨r, h1, h2⟩ := dbl_sub hx hy hb
  rw [fop_of (show floatBits .sub .f64 x y = some r from h1)]; exact h2
theorem d_mul {x y : Nat} {s t : Bool} {v w : Nat} {a b : Nat} (hx : Dbl x s v) (hy : Dbl y t w) (ha : v ≤ pw a) (hb : w ≤ pw b) (h1 : 6978 ≤ a + b) (h2 : a + b ≤ 9023) :
    ∃ u, Dbl (fop .mul .f64 x y) (s ^^ t) u ∧ u ≤ pw (a + b - 4000) ∧ (v = 0 → u = 0) := by
  unfold pw at ha hb ⊢
  obtain ⟨r, u, h3, h4⟩ := fin_mul hx hy ha hb h1 h2
  rw [fop_of (show floatBits .mul .f64 x y = some r from h3)]; exact ⟨u, h4⟩
theorem d_div {x y : Nat} {s t : Bool} {v w : Nat} {k : Nat} (hx : Dbl x s v) (hy : Dbl y t w) (hw : w ≠ 0) (h : v * pw 4000 ≤ w * pw k) (h1 : 2978 ≤ k) (h2 : k ≤ 5023) :
    ∃ u, Dbl (fop .quo .f64 x y) (s ^^ t) u ∧ u ≤ pw k ∧ (v = 0 → u = 0) := by
  unfold pw at h ⊢
  obtain ⟨r, u, h3, h4⟩ := fin_div hx hy hw h h1 h2
  rw [fop_of (show floatBits .quo .f64 x y = some r from h3)]; exact ⟨u, h4⟩
theorem pow_mul_le {v w k : Nat} (h : v ≤ w * pw k) : v * pw 4000 ≤ w * pw (4000 + k) := by
  rw [pw_add 4000 k, Nat.mul_comm (pw 4000), ← Nat.mul_assoc]; exact Nat.mul_le_mul_right _ h
theorem d_nearest (n : Nat) (h0 : 1 ≤ n) (h1 : n ≤ 1024) : ∃ w, Dbl (FloatKind.f64.nearest n) false w ∧ pw 4000 ≤ w ∧ w ≤ pw 4010 := by
  have hc : cnt n 0 = n * pw 4000 := by have := cnt_pw n 0 4000 0 n rfl (by simp); rwa [Nat.zero_add] at this
  have h2 : cnt n 0 ≤ pw 4010 := by rw [hc, show (4010 : Nat) = 10 + 4000 from rfl, pw_add 10 4000]; exact Nat.mul_le_mul_right _ h1
  have hw := dbl_writep false n (e := 0) (by first | decide | omega) (Nat.le_trans h2 (pw_le (by decide)))
  refine ⟨_, ?_, le_rdp (by first | decide | omega) (by first | decide | omega) (V := cnt n 0) ?_, rd_lep (by first | decide | omega) (by first | decide | omega) h2⟩
  · have : FloatKind.f64.nearest (n : Int) = Ieee.double.write (.number false n 0) := by
      show Ieee.double.write (.number (decide ((n : Int) < 0)) (n : Int).natAbs 0) = _
      rw [show decide ((n : Int) < 0) = false from decide_eq_false (by first | decide | omega), Int.natAbs_natCast]
    rw [this]; exact hw
  · rw [hc]; exact Nat.le_mul_of_pos_left _ (by first | decide | omega)
/-- 1, 256. -/
def oneD : Nat := 4607182418800017408
theorem d_one : Dbl oneD false (pw 4000) :=
  ⟨4503599627370496, -52, by decide +kernel, by decide, (cnt_pw 4503599627370496 (-52) 3948 52 1 (by decide) (by decide)).trans (Nat.one_mul _)⟩
def c256 : Nat := 4643211215818981376
theorem d_256 : Dbl c256 false (pw 4008) :=
  ⟨4503599627370496, -44, by decide +kernel, by decide, (cnt_pw 4503599627370496 (-44) 3956 52 1 (by decide) (by decide)).trans (Nat.one_mul _)⟩

/-- A float64 that is made a float32 without more ado. -/
theorem over_fin {x : Nat} {s : Bool} {v : Nat} (h : Dbl x s v) (hv : v ≤ pw 4127) : fover .f64 x .f32 = false := by
  obtain ⟨m, e, h1, h2, rfl⟩ := h
  rw [dbl_lp] at h2
  have h3 := single_writep s m (e := e) (by first | decide | omega) hv
  unfold fover floatToFloatBits
  rw [if_neg (by decide)]
  have h4 : FloatKind.f64.decode x = .number s m e := h1
  rw [h4]
  have h5 : (FloatKind.f32.decode (FloatKind.f32.encode (.number s m e))).isInfinity = false := h3
  simp [Ieee.Datum.isNaN, h5]
theorem over_nan {x : Nat} (h : (FloatKind.f64.decode x).isNaN = true) : fover .f64 x .f32 = false := by simp [fover, h]
theorem over_inf {x : Nat} {s : Bool} (h : FloatKind.f64.decode x = .infinity s) : fover .f64 x .f32 = false := by
  unfold fover floatToFloatBits
  rw [if_neg (by decide), h]
  simp
/-- A float32 made a float64. -/
theorem d_widen {x : Nat} {s : Bool} {v : Nat} (h : Fin Ieee.single x s v) : Dbl (fconv .f32 x .f64) s v := by
  obtain ⟨m, e, h1, h2, rfl⟩ := h
  have h3 := widen_fin h1
  have ho := fover_widen x
  have h4 : FloatKind.f32.decode x = .number s m e := h1
  unfold fover at ho
  unfold fconv
  unfold floatToFloatBits at ho ⊢
  rw [if_neg (by decide), h4] at ho ⊢
  dsimp only at ho ⊢
  split at ho
  · simp [Ieee.Datum.isNaN] at ho
  · rename_i hi; rw [if_neg hi]; exact h3
theorem widen_inf {x : Nat} {s : Bool} (h : FloatKind.f32.decode x = .infinity s) : FloatKind.f64.decode (fconv .f32 x .f64) = .infinity s := by
  unfold fconv floatToFloatBits
  rw [if_neg (by decide), h]
  cases s <;> decide +kernel
theorem widen_nan {x : Nat} (h : (FloatKind.f32.decode x).isNaN = true) : fconv .f32 x .f64 = nanB .f64 := by
  obtain ⟨s, f, hd⟩ := eq_nan_of_isNaN h
  unfold fconv floatToFloatBits
  rw [if_neg (by decide), hd]; rfl
/-- What a float32 is. -/
theorem sgl_cases (x : Nat) : (FloatKind.f32.decode x).isNaN = true ∨ (∃ s, FloatKind.f32.decode x = .infinity s) ∨ ∃ s v, Fin Ieee.single x s v := by
  cases h : FloatKind.f32.decode x with
  | nan s f => exact .inl rfl
  | infinity s => exact .inr (.inl ⟨s, rfl⟩)
  | number s m e =>
    have h' : Ieee.single.read x = .number s m e := h
    have := sgl_read h'
    exact .inr (.inr ⟨s, _, m, e, h', by rw [show (Ieee.single).leastPlace = -149 from by decide]; omega, rfl⟩)
/-- Made wider, two numbers stand to each other as before. -/
theorem order_widen (x y : Nat) : FloatKind.f64.format.order (fconv .f32 x .f64) (fconv .f32 y .f64) = FloatKind.f32.format.order x y := by
  rcases sgl_cases x with hx | ⟨s, hx⟩ | ⟨s, v, hx⟩
  · rw [widen_nan hx]
    unfold Ieee.Format.order
    rw [decode_eq, decode_eq, decode_eq, decode_eq, order_nan_l hx, order_nan_l (isNaN_nanB _)]
  · rcases sgl_cases y with hy | ⟨t, hy⟩ | ⟨t, w, hy⟩
    · rw [widen_nan hy]
      unfold Ieee.Format.order
      rw [decode_eq, decode_eq, decode_eq, decode_eq, order_nan_r hy, order_nan_r (isNaN_nanB _)]
    · unfold Ieee.Format.order
      rw [decode_eq, decode_eq, decode_eq, decode_eq, widen_inf hx, widen_inf hy, hx, hy]
    · obtain ⟨m, e, h1, _⟩ := d_widen hy
      obtain ⟨m', e', h2, _⟩ := hy
      have h1' : FloatKind.f64.decode (fconv .f32 y .f64) = .number t m e := h1
      have h2' : FloatKind.f32.decode y = .number t m' e' := h2
      unfold Ieee.Format.order
      rw [decode_eq, decode_eq, decode_eq, decode_eq, widen_inf hx, hx, h1', h2']; rfl
  · rcases sgl_cases y with hy | ⟨t, hy⟩ | ⟨t, w, hy⟩
    · rw [widen_nan hy]
      unfold Ieee.Format.order
      rw [decode_eq, decode_eq, decode_eq, decode_eq, order_nan_r hy, order_nan_r (isNaN_nanB _)]
    · obtain ⟨m, e, h1, _⟩ := d_widen hx
      obtain ⟨m', e', h2, _⟩ := hx
      have h1' : FloatKind.f64.decode (fconv .f32 x .f64) = .number s m e := h1
      have h2' : FloatKind.f32.decode x = .number s m' e' := h2
      unfold Ieee.Format.order
      rw [decode_eq, decode_eq, decode_eq, decode_eq, widen_inf hy, hy, h1', h2']; rfl
    · exact (fin_order ok_double (d_widen hx) (d_widen hy)).trans (fin_order ok_single hx hy).symm

/-- e to the power of a number, as the program makes it. -/
def expStep (t p k : Nat) : Nat := fop .add .f64 oneD (fop .quo .f64 (fop .mul .f64 t p) k)
def expP (t : Nat) : Nat → Nat
  | 0 => oneD
  | i + 1 => expStep t (expP t i) (FloatKind.f64.nearest ((12 - i : Nat) : Int))
def sqrD (p : Nat) : Nat → Nat
  | 0 => p
  | i + 1 => fop .mul .f64 (sqrD p i) (sqrD p i)
def expD (x : Nat) : Nat := sqrD (expP (fop .quo .f64 x c256) 12) 8

theorem expP_neg {t : Nat} {s : Bool} {v : Nat} (ht : Dbl t s v) (hv : v ≤ pw 4000) (hs : s = true ∨ v = 0) : ∀ i, i ≤ 12 → ∃ u, Dbl (expP t i) false u ∧ u ≤ pw 4000 := by
  intro i
  induction i with
  | zero => intro _; exact ⟨_, d_one, Nat.le_refl _⟩
  | succ i ih =>
    intro hi
    obtain ⟨u, hu, hu2⟩ := ih (by first | decide | omega)
    obtain ⟨u1, h1, h2, h3⟩ := d_mul ht hu hv hu2 (by first | decide | omega) (by first | decide | omega)
    obtain ⟨w, h4, h5, _⟩ := d_nearest (12 - i) (by first | decide | omega) (by first | decide | omega)
    have hw0 : w ≠ 0 := by have := pw_pos 4000; omega
    obtain ⟨u2, h6, h7, h8⟩ := d_div h1 h4 hw0 (pow_mul_le (k := 0) (by rw [show pw 0 = 1 from rfl, Nat.mul_one]; exact Nat.le_trans h2 h5)) (by first | decide | omega) (by first | decide | omega)
    have h7' : u2 ≤ pw 4000 := h7
    have hss : ((s ^^ false) ^^ false) = s := by cases s <;> rfl
    rw [hss] at h6
    have hp := pw_pos 4000
    have hS : sg false (pw 4000) + sg s u2 = ((pw 4000 - u2 : Nat) : Int) := by
      unfold sg
      rcases hs with rfl | hv0
      · simp only [if_true]; rw [Int.ofNat_sub h7']; rfl
      · have := h8 (h3 hv0); subst this; cases s <;> simp
    have hsum := d_add d_one h6 (by rw [hS, Int.natAbs_natCast]; exact Nat.le_trans (Nat.sub_le _ _) (pw_le (by decide)))
    rw [hS, Int.natAbs_natCast] at hsum
    have hneg : (if (((pw 4000 - u2 : Nat) : Int) = 0) then false && s else decide (((pw 4000 - u2 : Nat) : Int) < 0)) = false := by
      split
      · rfl
      · exact decide_eq_false (by exact Int.not_lt.2 (Int.natCast_nonneg _))
    rw [hneg] at hsum
    exact ⟨_, hsum, rd_lep (by first | decide | omega) (by first | decide | omega) (Nat.sub_le _ _)⟩
theorem expP_mid {t : Nat} {s : Bool} {v : Nat} (ht : Dbl t s v) (hv : v ≤ pw 3998) : ∀ i, i ≤ 12 → ∃ u, Dbl (expP t i) false u ∧ u ≤ pw 4001 := by
  intro i
  induction i with
  | zero => intro _; exact ⟨_, d_one, pw_le (by decide)⟩
  | succ i ih =>
    intro hi
    obtain ⟨u, hu, hu2⟩ := ih (by first | decide | omega)
    obtain ⟨u1, h1, h2, h3⟩ := d_mul ht hu hv hu2 (by first | decide | omega) (by first | decide | omega)
    obtain ⟨w, h4, h5, _⟩ := d_nearest (12 - i) (by first | decide | omega) (by first | decide | omega)
    have hw0 : w ≠ 0 := by have := pw_pos 4000; omega
    have h2' : u1 ≤ pw 3999 := h2
    have h9 : u1 * pw 4000 ≤ w * pw 3999 := by
      rw [Nat.mul_comm w]; exact Nat.mul_le_mul h2' h5
    obtain ⟨u2, h6, h7, h8⟩ := d_div h1 h4 hw0 h9 (by first | decide | omega) (by first | decide | omega)
    have hss : ((s ^^ false) ^^ false) = s := by cases s <;> rfl
    rw [hss] at h6
    have hp : pw 4000 = 2 * pw 3999 := pw_two 3999 rfl
    have hp2 : pw 4001 = 2 * pw 4000 := pw_two 4000 rfl
    have hpos := pw_pos 3999
    obtain ⟨T, hT, hT1⟩ : ∃ T : Nat, sg false (pw 4000) + sg s u2 = (T : Int) ∧ T ≤ pw 4001 := by
      unfold sg
      cases s
      · exact ⟨pw 4000 + u2, by simp, by rw [hp2]; omega⟩
      · refine ⟨pw 4000 - u2, ?_, by rw [hp2]; omega⟩
        rw [Int.ofNat_sub (by first | decide | omega)]; simp [Int.sub_eq_add_neg]
    have hsum := d_add d_one h6 (by rw [hT, Int.natAbs_natCast]; exact Nat.le_trans hT1 (pw_le (by decide)))
    rw [hT, Int.natAbs_natCast] at hsum
    have hneg : (if ((T : Int) = 0) then false && s else decide ((T : Int) < 0)) = false := by
      split
      · rfl
      · exact decide_eq_false (by exact Int.not_lt.2 (Int.natCast_nonneg _))
    rw [hneg] at hsum
    exact ⟨_, hsum, rd_lep (by first | decide | omega) (by first | decide | omega) hT1⟩
theorem sqr_le {p : Nat} {u : Nat} (hp : Dbl p false u) (hu : u ≤ pw 4000) : ∀ i, ∃ u, Dbl (sqrD p i) false u ∧ u ≤ pw 4000 := by
  intro i
  induction i with
  | zero => exact ⟨u, hp, hu⟩
  | succ i ih =>
    obtain ⟨u, h1, h2⟩ := ih
    obtain ⟨u1, h3, h4, _⟩ := d_mul h1 h1 h2 h2 (by first | decide | omega) (by first | decide | omega)
    exact ⟨u1, h3, h4⟩
theorem sqr_gt {p : Nat} {u : Nat} (hp : Dbl p false u) (hu : u ≤ pw 4001) : ∀ i, i ≤ 8 → ∃ u, Dbl (sqrD p i) false u ∧ u ≤ pw (4000 + 2 ^ i) := by
  intro i
  induction i with
  | zero => intro _; exact ⟨u, hp, hu⟩
  | succ i ih =>
    intro hi
    obtain ⟨u, h1, h2⟩ := ih (by first | decide | omega)
    have h9 : 2 ^ (i + 1) = 2 ^ i + 2 ^ i := by rw [Nat.pow_succ]; omega
    rw [h9]
    have hq : 2 ^ i ≤ 128 := by have := Nat.pow_le_pow_right (n := 2) (by decide) (show i ≤ 7 by omega); exact this
    generalize 2 ^ i = q at *
    obtain ⟨u1, h3, h4, _⟩ := d_mul h1 h1 h2 h2 (by first | decide | omega) (by first | decide | omega)
    refine ⟨u1, h3, ?_⟩
    rw [show 4000 + q + (4000 + q) - 4000 = 4000 + (q + q) by omega] at h4
    exact h4
/-- Of a number from -256 to 0. -/
theorem exp_neg {x : Nat} {s : Bool} {v : Nat} (hx : Dbl x s v) (hv : v ≤ pw 4008) (hs : s = true ∨ v = 0) : ∃ u, Dbl (expD x) false u ∧ u ≤ pw 4000 := by
  obtain ⟨u, h1, h2, h3⟩ := d_div hx d_256 (Nat.ne_of_gt (pw_pos _)) (k := 4000) (Nat.mul_le_mul_right _ hv) (by first | decide | omega) (by first | decide | omega)
  have hss : (s ^^ false) = s := by cases s <;> rfl
  rw [hss] at h1
  obtain ⟨p, h4, h5⟩ := expP_neg h1 h2 (hs.imp id h3) 12 (by first | decide | omega)
  exact sqr_le h4 h5 8
theorem exp_mid {x : Nat} {s : Bool} {v : Nat} (hx : Dbl x s v) (hv : v ≤ pw 4006) : ∃ u, Dbl (expD x) false u ∧ u ≤ pw 4256 := by
  have h9 : v * pw 4000 ≤ pw 4008 * pw 3998 := by
    have : pw 4008 * pw 3998 = pw 4006 * pw 4000 := (pw_split 4008 3998 (c := 8006) rfl).trans (pw_split 4006 4000 (c := 8006) rfl).symm
    rw [this]; exact Nat.mul_le_mul_right _ hv
  obtain ⟨u, h1, h2, h3⟩ := d_div hx d_256 (Nat.ne_of_gt (pw_pos _)) h9 (by first | decide | omega) (by first | decide | omega)
  obtain ⟨p, h4, h5⟩ := expP_mid h1 h2 12 (by first | decide | omega)
  exact sqr_gt h4 h5 8 (by first | decide | omega)
def tanhD (p : Nat) : Nat := fop .quo .f64 (fop .sub .f64 p oneD) (fop .add .f64 p oneD)
theorem tanh_le {p : Nat} {u : Nat} (hp : Dbl p false u) (hu : u ≤ pw 4256) : ∃ s v, Dbl (tanhD p) s v ∧ v ≤ pw 4000 := by
  have hpos := pw_pos 4000
  have h0 : u + pw 4000 ≤ pw 4257 := by
    have : pw 4257 = 2 * pw 4256 := pw_two 4256 rfl
    have h2 : pw 4000 ≤ pw 4256 := pw_le (by decide)
    omega
  have h57 : pw 4257 ≤ pw 5023 := pw_le (by decide)
  have e1 : sg false u + sg false (pw 4000) = ((u + pw 4000 : Nat) : Int) := by simp [sg]
  have e2 : sg false u + sg (!false) (pw 4000) = (u : Int) - ((pw 4000 : Nat) : Int) := by simp [sg, Int.sub_eq_add_neg]
  have a := d_add hp d_one (by rw [e1, Int.natAbs_natCast]; exact Nat.le_trans h0 h57)
  have h3 : ((u : Int) - ((pw 4000 : Nat) : Int)).natAbs ≤ u + pw 4000 := by omega
  have b := d_sub hp d_one (by rw [e2]; exact Nat.le_trans h3 (Nat.le_trans h0 h57))
  rw [e1, Int.natAbs_natCast] at a
  rw [e2] at b
  have h4 : pw 4000 ≤ rd Ieee.double (u + pw 4000) := le_rdp (by first | decide | omega) (by first | decide | omega) (Nat.le_add_left _ _)
  have h5 := rd_mono Ieee.double h3
  obtain ⟨r, h6, h7, _⟩ := d_div b a (by first | decide | omega) (k := 4000) (Nat.mul_le_mul_right _ h5) (by first | decide | omega) (by first | decide | omega)
  exact ⟨_, _, h6, h7⟩
theorem expP_nan {t : Nat} (ht : (FloatKind.f64.decode t).isNaN = true) (i : Nat) : expP t (i + 1) = nanB .f64 := by
  show fop .add .f64 oneD (fop .quo .f64 (fop .mul .f64 t _) _) = _
  have h1 : ∀ y, fop .mul .f64 t y = nanB .f64 := fun y => by simp [fop, floatBits_nan_l ht]
  have h2 : ∀ y, fop .quo .f64 (nanB .f64) y = nanB .f64 := fun y => by simp [fop, floatBits_nan_l (isNaN_nanB .f64)]
  have h3 : ∀ y, fop .add .f64 y (nanB .f64) = nanB .f64 := fun y => by simp [fop, floatBits_nan_r (isNaN_nanB .f64)]
  rw [h1, h2, h3]
theorem expD_nan {x : Nat} (hx : (FloatKind.f64.decode x).isNaN = true) : expD x = nanB .f64 := by
  have h1 : ∀ y, fop .quo .f64 x y = nanB .f64 := fun y => by simp [fop, floatBits_nan_l hx]
  have h2 : ∀ y, fop .mul .f64 (nanB .f64) y = nanB .f64 := fun y => by simp [fop, floatBits_nan_l (isNaN_nanB .f64)]
  unfold expD
  rw [h1, expP_nan (isNaN_nanB .f64) 11]
  simp only [sqrD, h2]
end Go.Proofs.Ytnlhahlegedlaaa
