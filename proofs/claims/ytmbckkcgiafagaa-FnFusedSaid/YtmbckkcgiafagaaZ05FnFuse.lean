/- A part of the proofs: Rnd2, Rnd3, Fwd. -/
import Derived.Test.YtmbckkcgiafagaaZ01FnFuse
import Derived.Test.YtmbckkcgiafagaaRndFnFu
import Derived.Test.YtmbckkcgiafagaaZ02FnFuse
import Derived.Test.YtmbckkcgiafagaaZ03FnFuse
set_option linter.unusedSimpArgs false
set_option linter.unusedVariables false
set_option maxRecDepth 100000
set_option maxHeartbeats 16000000
namespace Go.Proofs.Ytmbckkcgiafagaa
open Rnd
def pw (k : Nat) : Nat := 2 ^ k
theorem pw_pos (k : Nat) : 0 < pw k := Nat.two_pow_pos k
theorem pw_add (a b : Nat) : pw (a + b) = pw a * pw b := Nat.pow_add 2 a b
theorem pw_le {a b : Nat} (h : a ≤ b) : pw a ≤ pw b := Nat.pow_le_pow_right (by decide) h
theorem pw_split (a b : Nat) {c : Nat} (h : a + b = c) : pw a * pw b = pw c := by subst h;exact (pw_add a b).symm
theorem pw_two (a : Nat) {c : Nat} (h : c = a + 1) : pw c = 2 * pw a := by subst h;rw [pw_add,Nat.mul_comm];rfl
theorem rd_lep {V k : Nat} (h1 : 2978 ≤ k) (h2 : k ≤ 5023) (h : V ≤ pw k) : rd Ieee.double V ≤ pw k := rd_le h1 h2 h
theorem le_rdp {V k : Nat} (h1 : 2978 ≤ k) (h2 : k ≤ 5023) (h : pw k ≤ V) : pw k ≤ rd Ieee.double V := le_rd h1 h2 h
theorem dbl_writep (s : Bool) (m : Nat) {e : Int} (he : -4000 ≤ e) (h : cnt m e ≤ pw 5023) : Fin Ieee.double (Ieee.double.write (.number s m e)) s (rd Ieee.double (cnt m e)) := by
 unfold pw at h;exact dbl_write s m he h
theorem single_writep (s : Bool) (m : Nat) {e : Int} (he : -4000 ≤ e) (h : cnt m e ≤ pw 4127) : (Ieee.single.read (Ieee.single.write (.number s m e))).isInfinity = false := by
 unfold pw at h;exact single_write s m he h
theorem pw_lt {a b : Nat} (h : pw a < pw b) : a < b := Nat.lt_of_not_le fun hc => Nat.lt_irrefl _ (Nat.lt_of_lt_of_le h (pw_le hc))
theorem cnt_pw (m : Nat) (e : Int) (k c d : Nat) (h1 : (e + 4000).toNat = k) (h2 : m = d * 2 ^ c) : cnt m e = d * pw (c + k) := by
 unfold cnt;rw [h1,h2,pw_add,Nat.mul_assoc];rfl
theorem cnt_pw2 (m : Nat) (e : Int) (k c d : Nat) {K : Nat} (hK : c + k = K) (h1 : (e + 4000).toNat = k) (h2 : m = d * 2 ^ c) : cnt m e = d * pw K := by
 subst hK;exact cnt_pw m e k c d h1 h2
abbrev Dbl (x : Nat) (s : Bool) (v : Nat) : Prop := Fin Ieee.double x s v
theorem fop_of {op : BinOp} {k : FloatKind} {x y r : Nat} (h : floatBits op k x y = some r) : fop op k x y = r := by simp [fop,h]
theorem d_add {x y : Nat} {s t : Bool} {v w : Nat} (hx : Dbl x s v) (hy : Dbl y t w) (hb : (sg s v + sg t w).natAbs ≤ pw 5023) :
 Dbl (fop .add .f64 x y) (if sg s v + sg t w = 0 then s && t else decide (sg s v + sg t w < 0)) (rd Ieee.double (sg s v + sg t w).natAbs) := by
 unfold pw at hb;obtain ⟨r,h1,h2⟩ := dbl_add hx hy hb;rw [fop_of (show floatBits .add .f64 x y = some r from h1)];exact h2
theorem d_sub {x y : Nat} {s t : Bool} {v w : Nat} (hx : Dbl x s v) (hy : Dbl y t w) (hb : (sg s v + sg (!t) w).natAbs ≤ pw 5023) :
 Dbl (fop .sub .f64 x y) (if sg s v + sg (!t) w = 0 then s && !t else decide (sg s v + sg (!t) w < 0)) (rd Ieee.double (sg s v + sg (!t) w).natAbs) := by
 unfold pw at hb;obtain ⟨r,h1,h2⟩ := dbl_sub hx hy hb;rw [fop_of (show floatBits .sub .f64 x y = some r from h1)];exact h2
theorem d_mul {x y : Nat} {s t : Bool} {v w : Nat} {a b : Nat} (hx : Dbl x s v) (hy : Dbl y t w) (ha : v ≤ pw a) (hb : w ≤ pw b) (h1 : 6978 ≤ a + b) (h2 : a + b ≤ 9023) :
 ∃ u,Dbl (fop .mul .f64 x y) (s ^^ t) u ∧ u ≤ pw (a + b - 4000) ∧ (v = 0 → u = 0) := by
 unfold pw at ha hb ⊢;obtain ⟨r,u,h3,h4⟩ := fin_mul hx hy ha hb h1 h2;rw [fop_of (show floatBits .mul .f64 x y = some r from h3)];exact ⟨u,h4⟩
theorem d_div {x y : Nat} {s t : Bool} {v w : Nat} {k : Nat} (hx : Dbl x s v) (hy : Dbl y t w) (hw : w ≠ 0) (h : v * pw 4000 ≤ w * pw k) (h1 : 2978 ≤ k) (h2 : k ≤ 5023) :
 ∃ u,Dbl (fop .quo .f64 x y) (s ^^ t) u ∧ u ≤ pw k ∧ (v = 0 → u = 0) := by
 unfold pw at h ⊢;obtain ⟨r,u,h3,h4⟩ := fin_div hx hy hw h h1 h2;rw [fop_of (show floatBits .quo .f64 x y = some r from h3)];exact ⟨u,h4⟩
theorem pow_mul_le {v w k : Nat} (h : v ≤ w * pw k) : v * pw 4000 ≤ w * pw (4000 + k) := by
 rw [pw_add 4000 k,Nat.mul_comm (pw 4000),← Nat.mul_assoc];exact Nat.mul_le_mul_right _ h
theorem d_nearest (n : Nat) (h0 : 1 ≤ n) (h1 : n ≤ 1024) : ∃ w,Dbl (FloatKind.f64.nearest n) false w ∧ pw 4000 ≤ w ∧ w ≤ pw 4010 := by
 have hc : cnt n 0 = n * pw 4000 := by have := cnt_pw n 0 4000 0 n rfl (by simp);rwa [Nat.zero_add] at this
 have h2 : cnt n 0 ≤ pw 4010 := by rw [hc,show (4010 : Nat) = 10 + 4000 from rfl,pw_add 10 4000];exact Nat.mul_le_mul_right _ h1
 have hw := dbl_writep false n (e := 0) (by first | decide | omega) (Nat.le_trans h2 (pw_le (by decide)));refine ⟨_,?_,le_rdp (by first | decide | omega) (by first | decide | omega) (V := cnt n 0) ?_,rd_lep (by first | decide | omega) (by first | decide | omega) h2⟩
 · have : FloatKind.f64.nearest (n : Int) = Ieee.double.write (.number false n 0) := by
    show Ieee.double.write (.number (decide ((n : Int) < 0)) (n : Int).natAbs 0) = _;rw [show decide ((n : Int) < 0) = false from decide_eq_false (by first | decide | omega),Int.natAbs_natCast]
   rw [this];exact hw
 · rw [hc];exact Nat.le_mul_of_pos_left _ (by first | decide | omega)
def oneD : Nat := 4607182418800017408
theorem d_one : Dbl oneD false (pw 4000) :=
 ⟨4503599627370496,-52,by decide +kernel,by decide,(cnt_pw 4503599627370496 (-52) 3948 52 1 (by decide) (by decide)).trans (Nat.one_mul _)⟩
def c256 : Nat := 4643211215818981376
theorem d_256 : Dbl c256 false (pw 4008) :=
 ⟨4503599627370496,-44,by decide +kernel,by decide,(cnt_pw 4503599627370496 (-44) 3956 52 1 (by decide) (by decide)).trans (Nat.one_mul _)⟩
theorem over_fin {x : Nat} {s : Bool} {v : Nat} (h : Dbl x s v) (hv : v ≤ pw 4127) : fover .f64 x .f32 = false := by
 obtain ⟨m,e,h1,h2,rfl⟩ := h;rw [dbl_lp] at h2;have h3 := single_writep s m (e := e) (by first | decide | omega) hv;unfold fover floatToFloatBits;rw [if_neg (by decide)];have h4 : FloatKind.f64.decode x = .number s m e := h1;rw [h4];have h5 : (FloatKind.f32.decode (FloatKind.f32.encode (.number s m e))).isInfinity = false := h3;simp [Ieee.Datum.isNaN,h5]
theorem over_nan {x : Nat} (h : (FloatKind.f64.decode x).isNaN = true) : fover .f64 x .f32 = false := by simp [fover,h]
theorem over_inf {x : Nat} {s : Bool} (h : FloatKind.f64.decode x = .infinity s) : fover .f64 x .f32 = false := by
 unfold fover floatToFloatBits;rw [if_neg (by decide),h];simp
theorem d_widen {x : Nat} {s : Bool} {v : Nat} (h : Fin Ieee.single x s v) : Dbl (jam .f32 x .f64) s v := by
 obtain ⟨m,e,h1,h2,rfl⟩ := h;have h3 := widen_fin h1;have ho := jbd x;have h4 : FloatKind.f32.decode x = .number s m e := h1;unfold fover at ho;unfold jam;unfold floatToFloatBits at ho ⊢;rw [if_neg (by decide),h4] at ho ⊢;dsimp only at ho ⊢
 split at ho
 · simp [Ieee.Datum.isNaN] at ho
 · rename_i hi;rw [if_neg hi];exact h3
theorem widen_inf {x : Nat} {s : Bool} (h : FloatKind.f32.decode x = .infinity s) : FloatKind.f64.decode (jam .f32 x .f64) = .infinity s := by
 unfold jam floatToFloatBits;rw [if_neg (by decide),h]
 cases s <;> decide +kernel
theorem widen_nan {x : Nat} (h : (FloatKind.f32.decode x).isNaN = true) : jam .f32 x .f64 = nanB .f64 := by
 obtain ⟨s,f,hd⟩ := jaf h;unfold jam floatToFloatBits;rw [if_neg (by decide),hd];rfl
theorem sgl_cases (x : Nat) : (FloatKind.f32.decode x).isNaN = true ∨ (∃ s,FloatKind.f32.decode x = .infinity s) ∨ ∃ s v,Fin Ieee.single x s v := by
 cases h : FloatKind.f32.decode x with
 | nan s f => exact .inl rfl
 | infinity s => exact .inr (.inl ⟨s,rfl⟩)
 | number s m e =>
   have h' : Ieee.single.read x = .number s m e := h;have := sgl_read h';exact .inr (.inr ⟨s,_,m,e,h',by rw [show (Ieee.single).leastPlace = -149 from by decide];omega,rfl⟩)
def expStep (t p k : Nat) : Nat := fop .add .f64 oneD (fop .quo .f64 (fop .mul .f64 t p) k)
def expP (t : Nat) : Nat → Nat
 | 0 => oneD
 | i + 1 => expStep t (expP t i) (FloatKind.f64.nearest ((12 - i : Nat) : Int))
def sqrD (p : Nat) : Nat → Nat
 | 0 => p
 | i + 1 => fop .mul .f64 (sqrD p i) (sqrD p i)
def expD (x : Nat) : Nat := sqrD (expP (fop .quo .f64 x c256) 12) 8
theorem expP_neg {t : Nat} {s : Bool} {v : Nat} (ht : Dbl t s v) (hv : v ≤ pw 4000) (hs : s = true ∨ v = 0) : ∀ i,i ≤ 12 → ∃ u,Dbl (expP t i) false u ∧ u ≤ pw 4000 := by
 intro i
 induction i with
 | zero => intro _;exact ⟨_,d_one,Nat.le_refl _⟩
 | succ i ih =>
   intro hi;obtain ⟨u,hu,hu2⟩ := ih (by first | decide | omega);obtain ⟨u1,h1,h2,h3⟩ := d_mul ht hu hv hu2 (by first | decide | omega) (by first | decide | omega);obtain ⟨w,h4,h5,_⟩ := d_nearest (12 - i) (by first | decide | omega) (by first | decide | omega);have hw0 : w ≠ 0 := by have := pw_pos 4000;omega
   obtain ⟨u2,h6,h7,h8⟩ := d_div h1 h4 hw0 (pow_mul_le (k := 0) (by rw [show pw 0 = 1 from rfl,Nat.mul_one];exact Nat.le_trans h2 h5)) (by first | decide | omega) (by first | decide | omega);have h7' : u2 ≤ pw 4000 := h7;have hss : ((s ^^ false) ^^ false) = s := by cases s <;> rfl
   rw [hss] at h6;have hp := pw_pos 4000
   have hS : sg false (pw 4000) + sg s u2 = ((pw 4000 - u2 : Nat) : Int) := by
    unfold sg;rcases hs with rfl | hv0
    · simp only [if_true];rw [Int.ofNat_sub h7'];rfl
    · have := h8 (h3 hv0);subst this;cases s <;> simp
   have hsum := d_add d_one h6 (by rw [hS,Int.natAbs_natCast];exact Nat.le_trans (Nat.sub_le _ _) (pw_le (by decide)));rw [hS,Int.natAbs_natCast] at hsum
   have hneg : (if (((pw 4000 - u2 : Nat) : Int) = 0) then false && s else decide (((pw 4000 - u2 : Nat) : Int) < 0)) = false := by
    split
    · rfl
    · exact decide_eq_false (by exact Int.not_lt.2 (Int.natCast_nonneg _))
   rw [hneg] at hsum;exact ⟨_,hsum,rd_lep (by first | decide | omega) (by first | decide | omega) (Nat.sub_le _ _)⟩
theorem expP_mid {t : Nat} {s : Bool} {v : Nat} (ht : Dbl t s v) (hv : v ≤ pw 3998) : ∀ i,i ≤ 12 → ∃ u,Dbl (expP t i) false u ∧ u ≤ pw 4001 := by
 intro i
 induction i with
 | zero => intro _;exact ⟨_,d_one,pw_le (by decide)⟩
 | succ i ih =>
   intro hi;obtain ⟨u,hu,hu2⟩ := ih (by first | decide | omega);obtain ⟨u1,h1,h2,h3⟩ := d_mul ht hu hv hu2 (by first | decide | omega) (by first | decide | omega);obtain ⟨w,h4,h5,_⟩ := d_nearest (12 - i) (by first | decide | omega) (by first | decide | omega);have hw0 : w ≠ 0 := by have := pw_pos 4000;omega
   have h2' : u1 ≤ pw 3999 := h2
   have h9 : u1 * pw 4000 ≤ w * pw 3999 := by
    rw [Nat.mul_comm w];exact Nat.mul_le_mul h2' h5
   obtain ⟨u2,h6,h7,h8⟩ := d_div h1 h4 hw0 h9 (by first | decide | omega) (by first | decide | omega);have hss : ((s ^^ false) ^^ false) = s := by cases s <;> rfl
   rw [hss] at h6;have hp : pw 4000 = 2 * pw 3999 := pw_two 3999 rfl;have hp2 : pw 4001 = 2 * pw 4000 := pw_two 4000 rfl;have hpos := pw_pos 3999
   obtain ⟨T,hT,hT1⟩ : ∃ T : Nat,sg false (pw 4000) + sg s u2 = (T : Int) ∧ T ≤ pw 4001 := by
    unfold sg
    cases s
    · exact ⟨pw 4000 + u2,by simp,by rw [hp2];omega⟩
    · refine ⟨pw 4000 - u2,?_,by rw [hp2];omega⟩
      rw [Int.ofNat_sub (by first | decide | omega)];simp [Int.sub_eq_add_neg]
   have hsum := d_add d_one h6 (by rw [hT,Int.natAbs_natCast];exact Nat.le_trans hT1 (pw_le (by decide)));rw [hT,Int.natAbs_natCast] at hsum
   have hneg : (if ((T : Int) = 0) then false && s else decide ((T : Int) < 0)) = false := by
    split
    · rfl
    · exact decide_eq_false (by exact Int.not_lt.2 (Int.natCast_nonneg _))
   rw [hneg] at hsum;exact ⟨_,hsum,rd_lep (by first | decide | omega) (by first | decide | omega) hT1⟩
theorem sqr_le {p : Nat} {u : Nat} (hp : Dbl p false u) (hu : u ≤ pw 4000) : ∀ i,∃ u,Dbl (sqrD p i) false u ∧ u ≤ pw 4000 := by
 intro i
 induction i with
 | zero => exact ⟨u,hp,hu⟩
 | succ i ih =>
   obtain ⟨u,h1,h2⟩ := ih;obtain ⟨u1,h3,h4,_⟩ := d_mul h1 h1 h2 h2 (by first | decide | omega) (by first | decide | omega);exact ⟨u1,h3,h4⟩
theorem sqr_gt {p : Nat} {u : Nat} (hp : Dbl p false u) (hu : u ≤ pw 4001) : ∀ i,i ≤ 8 → ∃ u,Dbl (sqrD p i) false u ∧ u ≤ pw (4000 + 2 ^ i) := by
 intro i
 induction i with
 | zero => intro _;exact ⟨u,hp,hu⟩
 | succ i ih =>
   intro hi;obtain ⟨u,h1,h2⟩ := ih (by first | decide | omega);have h9 : 2 ^ (i + 1) = 2 ^ i + 2 ^ i := by rw [Nat.pow_succ];omega
   rw [h9];have hq : 2 ^ i ≤ 128 := by have := Nat.pow_le_pow_right (n := 2) (by decide) (show i ≤ 7 by omega);exact this
   generalize 2 ^ i = q at *;obtain ⟨u1,h3,h4,_⟩ := d_mul h1 h1 h2 h2 (by first | decide | omega) (by first | decide | omega);refine ⟨u1,h3,?_⟩;rw [show 4000 + q + (4000 + q) - 4000 = 4000 + (q + q) by omega] at h4;exact h4
theorem exp_neg {x : Nat} {s : Bool} {v : Nat} (hx : Dbl x s v) (hv : v ≤ pw 4008) (hs : s = true ∨ v = 0) : ∃ u,Dbl (expD x) false u ∧ u ≤ pw 4000 := by
 obtain ⟨u,h1,h2,h3⟩ := d_div hx d_256 (Nat.ne_of_gt (pw_pos _)) (k := 4000) (Nat.mul_le_mul_right _ hv) (by first | decide | omega) (by first | decide | omega);have hss : (s ^^ false) = s := by cases s <;> rfl
 rw [hss] at h1;obtain ⟨p,h4,h5⟩ := expP_neg h1 h2 (hs.imp id h3) 12 (by first | decide | omega);exact sqr_le h4 h5 8
theorem exp_mid {x : Nat} {s : Bool} {v : Nat} (hx : Dbl x s v) (hv : v ≤ pw 4006) : ∃ u,Dbl (expD x) false u ∧ u ≤ pw 4256 := by
 have h9 : v * pw 4000 ≤ pw 4008 * pw 3998 := by
  have : pw 4008 * pw 3998 = pw 4006 * pw 4000 := (pw_split 4008 3998 (c := 8006) rfl).trans (pw_split 4006 4000 (c := 8006) rfl).symm;rw [this];exact Nat.mul_le_mul_right _ hv
 obtain ⟨u,h1,h2,h3⟩ := d_div hx d_256 (Nat.ne_of_gt (pw_pos _)) h9 (by first | decide | omega) (by first | decide | omega);obtain ⟨p,h4,h5⟩ := expP_mid h1 h2 12 (by first | decide | omega);exact sqr_gt h4 h5 8 (by first | decide | omega)
def tanhD (p : Nat) : Nat := fop .quo .f64 (fop .sub .f64 p oneD) (fop .add .f64 p oneD)
theorem tanh_le {p : Nat} {u : Nat} (hp : Dbl p false u) (hu : u ≤ pw 4256) : ∃ s v,Dbl (tanhD p) s v ∧ v ≤ pw 4000 := by
 have hpos := pw_pos 4000
 have h0 : u + pw 4000 ≤ pw 4257 := by
  have : pw 4257 = 2 * pw 4256 := pw_two 4256 rfl;have h2 : pw 4000 ≤ pw 4256 := pw_le (by decide);omega
 have h57 : pw 4257 ≤ pw 5023 := pw_le (by decide);have e1 : sg false u + sg false (pw 4000) = ((u + pw 4000 : Nat) : Int) := by simp [sg]
 have e2 : sg false u + sg (!false) (pw 4000) = (u : Int) - ((pw 4000 : Nat) : Int) := by simp [sg,Int.sub_eq_add_neg]
 have a := d_add hp d_one (by rw [e1,Int.natAbs_natCast];exact Nat.le_trans h0 h57);have h3 : ((u : Int) - ((pw 4000 : Nat) : Int)).natAbs ≤ u + pw 4000 := by omega
 have b := d_sub hp d_one (by rw [e2];exact Nat.le_trans h3 (Nat.le_trans h0 h57));rw [e1,Int.natAbs_natCast] at a;rw [e2] at b;have h4 : pw 4000 ≤ rd Ieee.double (u + pw 4000) := le_rdp (by first | decide | omega) (by first | decide | omega) (Nat.le_add_left _ _);have h5 := rd_mono Ieee.double h3;obtain ⟨r,h6,h7,_⟩ := d_div b a (by first | decide | omega) (k := 4000) (Nat.mul_le_mul_right _ h5) (by first | decide | omega) (by first | decide | omega);exact ⟨_,_,h6,h7⟩
theorem expP_nan {t : Nat} (ht : (FloatKind.f64.decode t).isNaN = true) (i : Nat) : expP t (i + 1) = nanB .f64 := by
 show fop .add .f64 oneD (fop .quo .f64 (fop .mul .f64 t _) _) = _;have h1 : ∀ y,fop .mul .f64 t y = nanB .f64 := fun y => by simp [fop,jaz ht]
 have h2 : ∀ y,fop .quo .f64 (nanB .f64) y = nanB .f64 := fun y => by simp [fop,jaz (jav .f64)]
 have h3 : ∀ y,fop .add .f64 y (nanB .f64) = nanB .f64 := fun y => by simp [fop,jbx (jav .f64)]
 rw [h1,h2,h3]
theorem expD_nan {x : Nat} (hx : (FloatKind.f64.decode x).isNaN = true) : expD x = nanB .f64 := by
 have h1 : ∀ y,fop .quo .f64 x y = nanB .f64 := fun y => by simp [fop,jaz hx]
 have h2 : ∀ y,fop .mul .f64 (nanB .f64) y = nanB .f64 := fun y => by simp [fop,jaz (jav .f64)]
 unfold expD;rw [h1,expP_nan (jav .f64) 11];simp only [sqrD,h2]
end Go.Proofs.Ytmbckkcgiafagaa
namespace Go.Proofs.Ytmbckkcgiafagaa
open Rnd
def NonPos (y : Nat) : Prop := (FloatKind.f32.decode y).isNaN = true ∨ FloatKind.f32.decode y = .infinity true ∨ ∃ s v,Fin Ieee.single y s v ∧ (s = true ∨ v = 0)
theorem read_inf (s : Bool) : FloatKind.f32.decode (Ieee.single.write (.infinity s)) = .infinity s := by cases s <;> decide +kernel
theorem read_inf64 (s : Bool) : FloatKind.f64.decode (Ieee.double.write (.infinity s)) = .infinity s := by cases s <;> decide +kernel
theorem sgl_write (s : Bool) (m : Nat) {e : Int} (he : -4000 ≤ e) : Ieee.single.write (.number s m e) = Ieee.single.write (.infinity s) ∨ ∃ v,Fin Ieee.single (Ieee.single.write (.number s m e)) s v ∧ (m = 0 → v = 0) := by
 have h1 := nearest_cnt Ieee.single ok_single s m he
 have h2 : rung Ieee.single (Lo Ieee.single) (cnt m e) ≤ (Ieee.single).infRung := by
  unfold rung;split
  · exact Nat.zero_le _
  · exact Nat.min_le_right _ _
 rcases Nat.lt_or_eq_of_le h2 with h | h
 · refine .inr ⟨_,fin_write Ieee.single ok_single s m he h,?_⟩
   rintro rfl
   unfold cnt;rw [Nat.zero_mul];exact rd_zero _
 · left
   show (Ieee.single).nearest s m e = _;rw [h1,h];rfl
theorem fop_inf {x m : Nat} {s t u : Bool} {d e : Ieee.Datum} (hx : FloatKind.f32.decode x = d) (hm : FloatKind.f32.decode m = e) (h : d.sum e.opposite = some (.infinity u)) : FloatKind.f32.decode (fop .sub .f32 x m) = .infinity u := by
 subst hx hm;rw [fop_of (r := Ieee.single.write (.infinity u)) ?_]
 · exact read_inf u
 · show ((FloatKind.f32.decode x).sum (FloatKind.f32.decode m).opposite).map _ = _
   rw [h];rfl
theorem fop_none {x m : Nat} {d e : Ieee.Datum} (hx : FloatKind.f32.decode x = d) (hm : FloatKind.f32.decode m = e) (h : d.sum e.opposite = none) : NonPos (fop .sub .f32 x m) := by
 subst hx hm
 left
 have : floatBits .sub .f32 x m = none := by
  show ((FloatKind.f32.decode x).sum (FloatKind.f32.decode m).opposite).map _ = _;rw [h];rfl
 unfold fop;rw [this];exact jav .f32
theorem sub_neg {x m : Nat} (h : fgt .f32 x m = false) : NonPos (fop .sub .f32 x m) := by
 have ho : ¬ (FloatKind.f32.decode x).order (FloatKind.f32.decode m) = some .gt := by
  intro hc;have : FloatKind.f32.format.order x m = some .gt := hc;unfold fgt at h;rw [this] at h;cases h
 rcases sgl_cases x with hx | ⟨s,hx⟩ | ⟨s,v,hx⟩
 · exact fop_none rfl rfl (sum_nan_l hx)
 · rcases sgl_cases m with hm | ⟨t,hm⟩ | ⟨t,w,hm⟩
   · exact fop_none rfl rfl (sum_nan_r (opp_nan hm))
   · rw [hx,hm] at ho
     cases s <;> cases t
     · exact fop_none hx hm rfl
     · exact absurd rfl ho
     · exact .inr (.inl (fop_inf (s := true) (t := true) hx hm rfl))
     · exact fop_none hx hm rfl
   · obtain ⟨n,j,h3,h4,rfl⟩ := hm
     have hm : FloatKind.f32.decode m = .number t n j := h3;rw [hx,hm] at ho
     cases s
     · exact absurd rfl ho
     · exact .inr (.inl (fop_inf (s := true) (t := true) hx hm rfl))
 · obtain ⟨k,i,h1,h2,rfl⟩ := hx
   have hx : FloatKind.f32.decode x = .number s k i := h1;rcases sgl_cases m with hm | ⟨t,hm⟩ | ⟨t,w,hm⟩
   · exact fop_none rfl rfl (sum_nan_r (opp_nan hm))
   · rw [hx,hm] at ho
     cases t
     · exact .inr (.inl (fop_inf (s := true) (t := true) hx hm rfl))
     · exact absurd rfl ho
   · obtain ⟨n,j,h3,h4,rfl⟩ := hm
     have hm : FloatKind.f32.decode m = .number t n j := h3;rw [hx,hm] at ho;have hlp : (Ieee.single).leastPlace = -149 := by decide
     rw [hlp] at h2 h4
     have hT : Ieee.signed s k (i - min i j).toNat + Ieee.signed (!t) n (j - min i j).toNat ≤ 0 := by
      simp only [Ieee.Datum.order,Option.some.injEq] at ho
      have e1 : Ieee.signed (!t) n (j - min i j).toNat = - Ieee.signed t n (j - min i j).toNat := by
       unfold Ieee.signed;cases t <;> simp
      rw [e1];generalize Ieee.signed s k (i - min i j).toNat = A at *;generalize Ieee.signed t n (j - min i j).toNat = B at *;refine Int.not_lt.1 fun hlt => ho ?_
      exact Int.compare_eq_gt.2 (by omega)
     have hr : fop .sub .f32 x m = Ieee.single.write (.number (if Ieee.signed s k (i - min i j).toNat + Ieee.signed (!t) n (j - min i j).toNat = 0 then s && !t else decide (Ieee.signed s k (i - min i j).toNat + Ieee.signed (!t) n (j - min i j).toNat < 0)) (Ieee.signed s k (i - min i j).toNat + Ieee.signed (!t) n (j - min i j).toNat).natAbs (min i j)) := by
      refine fop_of ?_;show ((FloatKind.f32.decode x).sum (FloatKind.f32.decode m).opposite).map _ = _;rw [hx,hm];rfl
     rw [hr];generalize Ieee.signed s k (i - min i j).toNat + Ieee.signed (!t) n (j - min i j).toNat = T at *;rcases sgl_write (if T = 0 then s && !t else decide (T < 0)) T.natAbs (e := min i j) (by omega) with h5 | ⟨v,h5,h6⟩
     · by_cases h0 : T = 0
       · subst h0
         exfalso
         have h7 := congrArg (FloatKind.f32.decode) h5;rw [read_inf] at h7;have h8 := single_writep (if (0 : Int) = 0 then s && !t else decide ((0 : Int) < 0)) 0 (e := min i j) (by omega) (by unfold cnt;rw [Nat.zero_mul];exact Nat.zero_le _);have h9 : FloatKind.f32.decode (Ieee.single.write (.number (if (0 : Int) = 0 then s && !t else decide ((0 : Int) < 0)) 0 (min i j))) = Ieee.single.read (Ieee.single.write (.number (if (0 : Int) = 0 then s && !t else decide ((0 : Int) < 0)) 0 (min i j))) := rfl;rw [← h9] at h8;rw [show (0 : Int).natAbs = 0 from rfl] at h7;rw [h7] at h8;cases h8
       · rw [if_neg h0,decide_eq_true (by omega)] at h5 ⊢
         rw [h5];exact .inr (.inl (read_inf true))
     · refine .inr (.inr ⟨_,v,h5,?_⟩)
       by_cases h0 : T = 0
       · right;exact h6 (by subst h0;rfl)
       · left;rw [if_neg h0,decide_eq_true (by omega)]
def c200 : Nat := 1128792064
def n200 : Nat := 3276275712
def c20 : Nat := 1101004800
def n20 : Nat := 3248488448
theorem fin_c (x : Nat) (s : Bool) (m : Nat) (e : Int) (h : Ieee.single.read x = .number s m e) (he : -149 ≤ e) : Fin Ieee.single x s (cnt m e) := ⟨m,e,h,by rw [show (Ieee.single).leastPlace = -149 from by decide];exact he,rfl⟩
theorem c200_pw : cnt 13107200 (-16) = 200 * pw 4000 := cnt_pw2 13107200 (-16) 3984 16 200 rfl (by decide) (by decide)
theorem c20_pw : cnt 10485760 (-19) = 20 * pw 4000 := cnt_pw2 10485760 (-19) 3981 19 20 rfl (by decide) (by decide)
theorem f_c200 : Fin Ieee.single c200 false (200 * pw 4000) := by
 rw [← c200_pw];exact fin_c c200 false 13107200 (-16) (by decide +kernel) (by decide)
theorem f_n200 : Fin Ieee.single n200 true (200 * pw 4000) := by
 rw [← c200_pw];exact fin_c n200 true 13107200 (-16) (by decide +kernel) (by decide)
theorem f_c20 : Fin Ieee.single c20 false (20 * pw 4000) := by
 rw [← c20_pw];exact fin_c c20 false 10485760 (-19) (by decide +kernel) (by decide)
theorem f_n20 : Fin Ieee.single n20 true (20 * pw 4000) := by
 rw [← c20_pw];exact fin_c n20 true 10485760 (-19) (by decide +kernel) (by decide)
theorem pow_le_of {c k : Nat} (h : c ≤ 2 ^ k) : c * pw 4000 ≤ pw (4000 + k) := by
 rw [Nat.add_comm 4000 k,pw_add k 4000];exact Nat.mul_le_mul_right _ h
theorem not_lt_fin {x c : Nat} {s : Bool} {v C : Nat} (hx : Fin Ieee.single x s v) (hc : Fin Ieee.single c true C) (h : flt .f32 x c = false) : s = false ∨ v ≤ C := by
 have ho : Ieee.single.order x c = some (compare (sg s v) (sg true C)) := fin_order ok_single hx hc;have ho' : FloatKind.f32.format.order x c = some (compare (sg s v) (sg true C)) := ho;unfold flt at h;rw [ho'] at h
 cases s
 · exact .inl rfl
 · right
   refine Nat.le_of_not_lt fun hlt => ?_
   have : compare (sg true v) (sg true C) = .lt := Int.compare_eq_lt.2 (by unfold sg;simp;exact hlt);rw [this] at h;cases h
theorem not_gt_fin {x c : Nat} {s : Bool} {v C : Nat} (hx : Fin Ieee.single x s v) (hc : Fin Ieee.single c false C) (h : fgt .f32 x c = false) : s = true ∨ v ≤ C := by
 have ho : Ieee.single.order x c = some (compare (sg s v) (sg false C)) := fin_order ok_single hx hc;have ho' : FloatKind.f32.format.order x c = some (compare (sg s v) (sg false C)) := ho;unfold fgt at h;rw [ho'] at h
 cases s
 · right
   refine Nat.le_of_not_lt fun hlt => ?_
   have : compare (sg false v) (sg false C) = .gt := Int.compare_eq_gt.2 (by unfold sg;simp;exact hlt);rw [this] at h;cases h
 · exact .inl rfl
def expF (x : Nat) : Nat := if fgt .f32 x c200 then 2139095040 else if flt .f32 x n200 then 0 else jam .f64 (expD (jam .f32 x .f64)) .f32
theorem inf_lt {x c : Nat} {C : Nat} {s : Bool} (hx : FloatKind.f32.decode x = .infinity true) (hc : Fin Ieee.single c s C) : flt .f32 x c = true := by
 obtain ⟨m,e,h1,h2,rfl⟩ := hc;have hc : FloatKind.f32.decode c = .number s m e := h1
 have : FloatKind.f32.format.order x c = some .lt := by
  show (FloatKind.f32.decode x).order (FloatKind.f32.decode c) = _;rw [hx,hc];rfl
 unfold flt;rw [this];rfl
theorem inf_gt {x c : Nat} {C : Nat} {s : Bool} (hx : FloatKind.f32.decode x = .infinity false) (hc : Fin Ieee.single c s C) : fgt .f32 x c = true := by
 obtain ⟨m,e,h1,h2,rfl⟩ := hc;have hc : FloatKind.f32.decode c = .number s m e := h1
 have : FloatKind.f32.format.order x c = some .gt := by
  show (FloatKind.f32.decode x).order (FloatKind.f32.decode c) = _;rw [hx,hc];rfl
 unfold fgt;rw [this];rfl
theorem exp_over {x : Nat} (h : NonPos x) (h2 : flt .f32 x n200 = false) : fover .f64 (expD (jam .f32 x .f64)) .f32 = false := by
 rcases h with h | h | ⟨s,v,h,h3⟩
 · rw [widen_nan h,expD_nan (jav .f64)];exact over_nan (jav .f64)
 · rw [inf_lt h f_n200] at h2;cases h2
 · have hv : v ≤ pw 4008 := by
    rcases h3 with rfl | rfl
    · rcases not_lt_fin h f_n200 h2 with h4 | h4
      · cases h4
      · exact Nat.le_trans h4 (pow_le_of (k := 8) (by decide))
    · exact Nat.zero_le _
   obtain ⟨u,h5,h6⟩ := exp_neg (d_widen h) hv h3;exact over_fin h5 (Nat.le_trans h6 (pw_le (by decide)))
theorem nonpos_gt {x : Nat} (h : NonPos x) : fgt .f32 x c200 = false := by
 rcases h with h | h | ⟨s,v,h,h3⟩
 · unfold fgt
   have : FloatKind.f32.format.order x c200 = none := by
    show (FloatKind.f32.decode x).order _ = _;exact order_nan_l h
   rw [this];rfl
 · unfold fgt
   have : FloatKind.f32.format.order x c200 = some .lt := by
    show (FloatKind.f32.decode x).order (FloatKind.f32.decode c200) = _;rw [h,show FloatKind.f32.decode c200 = .number false 13107200 (-16) from by decide +kernel];rfl
   rw [this];rfl
 · have ho : FloatKind.f32.format.order x c200 = some (compare (sg s v) (sg false (200 * pw 4000))) := fin_order ok_single h f_c200
   unfold fgt;rw [ho];have hp := pw_pos 4000
   have : compare (sg s v) (sg false (200 * pw 4000)) = .lt := by
    refine Int.compare_eq_lt.2 ?_;generalize pw 4000 = P at *;unfold sg;rcases h3 with rfl | rfl
    · simp only [if_true,Bool.false_eq_true,if_false];omega
    · cases s <;> simp <;> omega
   rw [this];rfl
def twoD : Nat := 4611686018427387904
theorem d_two : Dbl twoD false (pw 4001) := by
 exact ⟨4503599627370496,-51,by decide +kernel,by decide,(cnt_pw 4503599627370496 (-51) 3949 52 1 (by decide) (by decide)).trans (Nat.one_mul _)⟩
def tanW (x : Nat) : Nat := fop .mul .f64 twoD (jam .f32 x .f64)
def tanF (x : Nat) : Nat := if fgt .f32 x c20 then 1065353216 else if flt .f32 x n20 then 3212836864 else jam .f64 (tanhD (expD (tanW x))) .f32
theorem tanW_cases {x : Nat} (h1 : fgt .f32 x c20 = false) (h2 : flt .f32 x n20 = false) : tanW x = nanB .f64 ∨ ∃ s v,Dbl (tanW x) s v ∧ v ≤ pw 4006 := by
 rcases sgl_cases x with hx | ⟨s,hx⟩ | ⟨s,v,hx⟩
 · left
   unfold tanW;rw [widen_nan hx];simp [fop,jbx (jav .f64)]
 · exfalso
   cases s
   · rw [inf_gt hx f_c20] at h1;cases h1
   · rw [inf_lt hx f_n20] at h2;cases h2
 · right
   have hv : v ≤ 20 * pw 4000 := by
    rcases not_lt_fin hx f_n20 h2 with rfl | h
    · rcases not_gt_fin hx f_c20 h1 with h | h
      · cases h
      · exact h
    · exact h
   obtain ⟨u,h3,h4,_⟩ := d_mul d_two (d_widen hx) (Nat.le_refl _) (Nat.le_trans hv (pow_le_of (k := 5) (by decide))) (by omega) (by omega);exact ⟨_,u,h3,h4⟩
theorem tanh_over {x : Nat} (h1 : fgt .f32 x c20 = false) (h2 : flt .f32 x n20 = false) : fover .f64 (tanhD (expD (tanW x))) .f32 = false := by
 rcases tanW_cases h1 h2 with h | ⟨s,v,h,hv⟩
 · rw [h,expD_nan (jav .f64)]
   refine over_nan ?_;unfold tanhD;have : fop .sub .f64 (nanB .f64) oneD = nanB .f64 := by simp [fop,jaz (jav .f64)]
   rw [this];simp [fop,jaz (jav .f64),jav]
 · obtain ⟨u,h3,h4⟩ := exp_mid h hv
   obtain ⟨s,r,h5,h6⟩ := tanh_le h3 h4;exact over_fin h5 (Nat.le_trans h6 (pw_le (by decide)))
def fsqrt (k : FloatKind) (x : Nat) : Nat := (k.format.sqrt x).getD (nanB k)
theorem rootFrom_lt (n : Nat) : ∀ k r,Ieee.Datum.rootFrom n k r < r + 2 ^ k := by
 intro k
 induction k with
 | zero => intro r;show r < r + 1;omega
 | succ k ih =>
   intro r;show Ieee.Datum.rootFrom n k (if (r + 1 <<< k) * (r + 1 <<< k) ≤ n then r + 1 <<< k else r) < _;have h1 : 1 <<< k = 2 ^ k := by rw [Nat.shiftLeft_eq,Nat.one_mul]
   rw [h1,Nat.pow_succ];have := ih (if (r + 2 ^ k) * (r + 2 ^ k) ≤ n then r + 2 ^ k else r)
   by_cases hc : (r + 2 ^ k) * (r + 2 ^ k) ≤ n
   · rw [if_pos hc] at this ⊢;omega
   · rw [if_neg hc] at this ⊢;omega
theorem sqrt_over (x : Nat) : fover .f64 (fsqrt .f64 (jam .f32 x .f64)) .f32 = false := by
 have hN : ∀ y : Nat,FloatKind.f64.format.sqrt y = none → fover .f64 (fsqrt .f64 y) .f32 = false := fun y h => by
  unfold fsqrt;rw [h];exact over_nan (jav .f64)
 rcases sgl_cases x with hx | ⟨s,hx⟩ | ⟨s,v,hx⟩
 · rw [widen_nan hx]
   exact hN _ (by decide +kernel)
 · have h := widen_inf hx
   generalize jam .f32 x .f64 = y at *
   cases s
   · have : FloatKind.f64.format.sqrt y = some (Ieee.double.write (.infinity false)) := by
      show ((FloatKind.f64.decode y).root _).map _ = _;rw [h];rfl
     unfold fsqrt;rw [this];exact over_inf (read_inf64 false)
   · exact hN _ (by show ((FloatKind.f64.decode y).root _).map _ = _;rw [h];rfl)
 · have h := d_widen hx
   have hv : v < pw 4128 := by
    obtain ⟨m,e,h1,_,rfl⟩ := hx;obtain ⟨h1,h2,h3⟩ := sgl_read h1;unfold cnt
    calc m * 2 ^ (e + 4000).toNat < 2 ^ 24 * 2 ^ (e + 4000).toNat := Nat.mul_lt_mul_of_pos_right (by omega) (Nat.two_pow_pos _)
     _ = 2 ^ (24 + (e + 4000).toNat) := by rw [← Nat.pow_add]
     _ ≤ pw 4128 := pw_le (by omega)
   generalize jam .f32 x .f64 = y at *;obtain ⟨m,i,h1,h2,rfl⟩ := h;obtain ⟨h3,h4,h5⟩ := dbl_read h1;have hd : FloatKind.f64.decode y = .number s m i := h1
   by_cases hm : m = 0
   · subst hm
     have : FloatKind.f64.format.sqrt y = some (Ieee.double.write (.number s 0 i)) := by
      show ((FloatKind.f64.decode y).root _).map _ = _;rw [hd];rfl
     unfold fsqrt;rw [this];have hw := dbl_writep s 0 (e := i) (by omega) (by unfold cnt;rw [Nat.zero_mul];exact Nat.zero_le _);refine over_fin hw ?_;unfold cnt;rw [Nat.zero_mul,rd_zero];exact Nat.zero_le _
   · cases s
     · have hlog : m.log2 < 53 := (Nat.log2_lt hm).2 (by omega)
       have hself : 2 ^ m.log2 ≤ m := Nat.log2_self_le hm
       have hi : (m.log2 : Int) + i ≤ 127 := by
        unfold cnt at hv
        have h6 : pw (m.log2 + (i + 4000).toNat) < pw 4128 := by
         rw [pw_add];exact Nat.lt_of_le_of_lt (Nat.mul_le_mul_right _ hself) hv
        have h7 := pw_lt h6;omega
       obtain ⟨p,hp,hp1⟩ : ∃ p : Nat,p = 2 * 54 - m.log2 + ((i - ((2 * 54 - m.log2 : Nat) : Int)) % 2).toNat ∧ 2 * 54 - m.log2 ≤ p ∧ p ≤ 2 * 54 - m.log2 + 1 := ⟨_,rfl,by omega,by omega⟩
       have hr : FloatKind.f64.format.sqrt y = some (Ieee.double.write (.number false (2 * Ieee.Datum.rootFrom (m <<< p) ((m <<< p).log2 / 2 + 1) 0 + (Ieee.Datum.rootFrom (m <<< p) ((m <<< p).log2 / 2 + 1) 0 * Ieee.Datum.rootFrom (m <<< p) ((m <<< p).log2 / 2 + 1) 0 != m <<< p).toNat) ((i - p) / 2 - 1))) := by
        show ((FloatKind.f64.decode y).root (52 + 2)).map _ = _;rw [hd];unfold Ieee.Datum.root;simp only [hm,if_false,Bool.false_eq_true];rw [hp];rfl
       unfold fsqrt;rw [hr];have hl : (m <<< p).log2 = m.log2 + p := by rw [Nat.shiftLeft_eq,log2_mul_pow hm]
       have hw := rootFrom_lt (m <<< p) ((m <<< p).log2 / 2 + 1) 0;rw [hl] at hw ⊢;rw [Nat.zero_add] at hw;have hw2 : (2 : Nat) ^ ((m.log2 + p) / 2 + 1) ≤ 2 ^ 55 := Nat.pow_le_pow_right (by decide) (by omega);generalize Ieee.Datum.rootFrom (m <<< p) ((m.log2 + p) / 2 + 1) 0 = W at *;have hb : (W * W != m <<< p).toNat ≤ 1 := toNat_le _;generalize (W * W != m <<< p).toNat = B at *
       have hc : cnt (2 * W + B) ((i - p) / 2 - 1) ≤ pw 4127 := by
        unfold cnt
        have hq : 2 * W + B ≤ 2 ^ 56 := by
         have : (2 : Nat) ^ 56 = 2 * 2 ^ 55 := by decide
         omega
        refine Nat.le_trans (Nat.mul_le_mul_right _ hq) ?_;rw [← Nat.pow_add];exact pw_le (by omega)
       have hf := dbl_writep false (2 * W + B) (e := (i - p) / 2 - 1) (by omega) (Nat.le_trans hc (pw_le (by decide)));exact over_fin hf (rd_lep (by omega) (by omega) hc)
     · exact hN _ (by show ((FloatKind.f64.decode y).root _).map _ = _;rw [hd];simp [Ieee.Datum.root,hm])
end Go.Proofs.Ytmbckkcgiafagaa
namespace Go.Proofs.Ytmbckkcgiafagaa
open Go.RowKit
def RF (k : FloatKind) (w : World) (r : Nat) (e : Ending) (w' : World) : Prop := ∃ b,e = .returned (.float k b) ∧ cn k b = r ∧ Ext w w'
def dotG (f g : Nat → Nat) : Nat → Nat
 | 0 => 0
 | i + 1 => fop .add .f32 (dotG f g i) (fop .mul .f32 (f i) (g i))
def sumG (f : Nat → Nat) : Nat → Nat
 | 0 => 0
 | i + 1 => fop .add .f32 (sumG f i) (f i)
theorem cn0 : cn .f32 0 = 0 := by decide +kernel
theorem dotG_congr {f f' g g' : Nat → Nat} : ∀ {n : Nat},(∀ i,i < n → f i = f' i) → (∀ i,i < n → g i = g' i) → dotG f g n = dotG f' g' n
 | 0,_,_ => rfl
 | n + 1,h,h' => by unfold dotG;rw [dotG_congr (fun i hi => h i (by omega)) (fun i hi => h' i (by omega)),h n (by omega),h' n (by omega)]
theorem dot_any (p q : Option Addr) (n c m d : Nat) (us vs : List Value) (xs ys : List Nat) (w : World) (hx : xs.length = n) (hy : ys.length = m) (hm : n ≤ m) (hn : m ≤ maxLen) (hp : Cs w p us) (hf : F32s us xs) (hq : Cs w q vs) (hg : F32s vs ys) :
 Calls Try.prog 124 #[.slice p n c,.slice q m d] w (RF .f32 w (dotG (fun j => xs.getD j 0) (fun j => ys.getD j 0) n)) := by
 unfold maxLen at hn;have X := hid hx;have Y := hid hy;clear hx hy;go_enter Try.func124,Try.ntmps124;go_wp2;go_loopw [5,9] (fun sv iv wr => ∃ (i b : Nat),i ≤ n ∧ iv = .int .i64 i ∧ sv = .float .f32 b ∧ Hid (cn .f32 b = dotG (fun j => xs.getD j 0) (fun j => ys.getD j 0) i) ∧ Ext w wr) (fun _ iv _ => n - (intOf iv).toNat)
 case atStart => exact ⟨0,0,by omega,rfl,rfl,cn0,Ext.refl _⟩
 case round =>
  obtain ⟨i,b,hi,rfl,rfl,HB,he⟩ := hrel
  by_cases hlt : i < n
  · have k1 := hp.ext he
    have k2 := hq.ext he;go_wp2;replace k1 := k1.ext (Ext.drew _);replace k2 := k2.ext (Ext.drew _);refine jab (F := fun _ _ _ => False) (by kernel_rfl) (by kernel_rfl) (by kernel_rfl) ?_;intro wf hwf
    repeat (first
     | ((first | (refine jar rfl ?_) | (refine x_mv rfl rfl rfl ?_) | (refine x_as rfl rfl rfl ?_) | ((with_reducible show gx0);first | (refine x_ldF rfl rfl (fun _ => rfl) rfl (fun _ => rfl) rfl rfl k1 hf X.out (by omega) (by omega) ?_;intro r1 g1;have G1 := hid g1;clear g1) | (refine x_ldF rfl rfl (fun _ => rfl) rfl (fun _ => rfl) rfl rfl k2 hg Y.out (by omega) (by omega) ?_;intro r2 g2;have G2 := hid g2;clear g2)) | ((with_reducible show gx1);refine x_fop rfl rfl rfl rfl rfl ?_;first | (have zz := G3;intro r4 g4;have G4 := hid g4;clear g4 zz) | (intro r3 g3;have G3 := hid g3;clear g3)));simp only [Act.put,jad,pu1,pu2,pu3,pu4,pu5])
     | (refine ja7 rfl fun K hK w1 hw1 => ?_;go_simp;refine hK _ ?_;clear hK K  hw1 w1))
    refine ja6 ?_;go_wp2;go_roundw
    case rel =>
     refine ⟨i + 1,_,by omega,by go_num,rfl,?_,(he.trans (Ext.drew _)).trans hwf⟩;have q1 := G1.out;have q2 := G2.out;simp only [Int.toNat_natCast] at q1 q2;rw [Hid,G4.out,HB.out,G3.out,q1,q2];rfl
    case measure => simp [intOf];omega
  · obtain rfl : i = n := by omega
    go_wp2;go_ret;exact ⟨b,rfl,HB.out,he⟩
theorem sumOf_any (p : Option Addr) (n c : Nat) (us : List Value) (xs : List Nat) (w : World) (hx : xs.length = n) (hn : n ≤ maxLen) (hp : Cs w p us) (hf : F32s us xs) :
 Calls Try.prog 144 #[.slice p n c] w (RF .f32 w (sumG (fun j => xs.getD j 0) n)) := by
 unfold maxLen at hn;have X := hid hx;clear hx;go_enter Try.func144,Try.ntmps144;go_wp2;go_loopw [3,8] (fun sv iv wr => ∃ (i b : Nat),i ≤ n ∧ iv = .int .i64 i ∧ sv = .float .f32 b ∧ Hid (cn .f32 b = sumG (fun j => xs.getD j 0) i) ∧ Ext w wr) (fun _ iv _ => n - (intOf iv).toNat)
 case atStart => exact ⟨0,0,by omega,rfl,rfl,cn0,Ext.refl _⟩
 case round =>
  obtain ⟨i,b,hi,rfl,rfl,HB,he⟩ := hrel
  by_cases hlt : i < n
  · have k1 := hp.ext he
    go_wp2_with (first | ((with_reducible show gx2);refine wl_ldF rfl rfl rfl rfl (fun _ => rfl) rfl rfl k1 hf X.out (by omega) (by omega) ?_;intro r1 g1;have G1 := hid g1;clear g1) | ((with_reducible show gx3);refine wl_fop rfl rfl rfl rfl rfl ?_;intro r3 w3 e3 g3;have G3 := hid g3;clear g3));go_roundw
    case rel =>
     refine ⟨i + 1,_,by omega,by go_num,rfl,?_,he.trans (by with_reducible assumption)⟩;have q1 := G1.out;simp only [Int.toNat_natCast] at q1;rw [Hid,G3.out,HB.out,q1];rfl
    case measure => simp [intOf];omega
  · obtain rfl : i = n := by omega
    go_wp2;go_ret;exact ⟨b,rfl,HB.out,he⟩
def reluF (x : Nat) : Nat := if fgt .f32 x 0 || !(feq .f32 x x) then x else 0
theorem relu_any (b : Nat) (w : World) : Calls Try.prog 125 #[.float .f32 b] w (RF .f32 w (reluF (cn .f32 b))) := by
 have h0 : cn .f32 0 = 0 := by decide +kernel
 have f1 := fgt_cn .f32 b 0;have f2 := feq_cn .f32 b b;rw [h0] at f1;have hr : reluF (cn .f32 b) = if fgt .f32 b 0 || !(feq .f32 b b) then cn .f32 b else 0 := by unfold reluF;rw [f1,f2]
 cases ha : fgt .f32 b 0
 · cases hb : feq .f32 b b
   · have a1 : (FloatKind.f32.format.order b 0 == some .gt) = false := ha
     have a2 : (FloatKind.f32.format.order b b != some .eq) = true := by unfold feq at hb;unfold bne;rw [hb];rfl
     rw [ha,hb] at hr;go_enter Try.func125,Try.ntmps125;go_wp2;go_ret;exact ⟨b,rfl,by rw [hr];rfl,Ext.refl _⟩
   · have a1 : (FloatKind.f32.format.order b 0 == some .gt) = false := ha
     have a2 : (FloatKind.f32.format.order b b != some .eq) = false := by unfold feq at hb;unfold bne;rw [hb];rfl
     rw [ha,hb] at hr;go_enter Try.func125,Try.ntmps125;go_wp2;go_ret;exact ⟨0,rfl,by rw [hr,h0];rfl,Ext.refl _⟩
 · have a1 : (FloatKind.f32.format.order b 0 == some .gt) = true := ha
   rw [ha] at hr;go_enter Try.func125,Try.ntmps125;go_wp2;go_ret;exact ⟨b,rfl,by rw [hr];rfl,Ext.refl _⟩
end Go.Proofs.Ytmbckkcgiafagaa
