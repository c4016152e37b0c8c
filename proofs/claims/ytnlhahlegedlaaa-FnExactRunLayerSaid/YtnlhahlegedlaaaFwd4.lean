/- The forward pass: roots, greatest numbers, shares. -/
import Derived.Test.YtnlhahlegedlaaaFwd3
import Derived.Test.YtnlhahlegedlaaaPar
import Derived.Test.YtnlhahlegedlaaaGrow
namespace Go.Proofs.Ytnlhahlegedlaaa
set_option linter.unusedSimpArgs false
set_option linter.unusedVariables false
open Go.RowKit Rnd

def rootF (x : Nat) : Nat := fconv .f64 (fsqrt .f64 (fconv .f32 x .f64)) .f32
set_option maxRecDepth 100000 in
set_option maxHeartbeats 1000000 in
theorem RootNumber_any (b : Nat) (w : World) : Calls Try.prog 217 #[.float .f32 b] w (RF .f32 w (rootF (cn .f32 b))) := by
  have H := hid (sqrt_over (cn .f32 b))
  go_enter Try.func217, Try.ntmps217
  go_wp2_with (first | ((with_reducible show wpList _ _ _ (Oper.mk _ (Op.convert _ _ _) _ _ _ _ :: _) _ _); refine wl_conv rfl rfl rfl (by kernel_rfl) underlying_f64 (fover_widen _) ?_; intro r0 w0 e0 g0; have G0 := hid g0; clear g0) | ((with_reducible show wpList _ _ _ (Oper.mk _ (Op.call _) _ _ _ _ :: _) _ _); fail))
  refine (Sqrt_any r0 _).mono ?_
  rintro e w1 ⟨b1, rfl, g1, e1⟩
  have G1 := hid g1
  clear g1
  go_wp2_with ((with_reducible show wpList _ _ _ (Oper.mk _ (Op.convert _ _ _) _ _ _ _ :: _) _ _); refine wl_conv rfl rfl rfl (by kernel_rfl) underlying_f32 (by rw [G1.out, G0.out]; exact H.out) ?_; intro r2 w2 e2 g2; have G2 := hid g2; clear g2)
  go_ret
  exact ⟨r2, rfl, by rw [G2.out, G1.out, G0.out]; rfl, (e0.trans e1).trans e2⟩
set_option maxRecDepth 100000 in
set_option maxHeartbeats 1000000 in
theorem l01Sqrt_any (b : Nat) (w : World) : Calls Try.prog 212 #[.float .f32 b] w (RF .f32 w (rootF (cn .f32 b))) := by
  have H := hid (sqrt_over (cn .f32 b))
  go_enter Try.func212, Try.ntmps212
  go_wp2_with ((with_reducible show wpList _ _ _ (Oper.mk _ (Op.convert _ _ _) _ _ _ _ :: _) _ _); refine wl_conv rfl rfl rfl (by kernel_rfl) underlying_f64 (fover_widen _) ?_; intro r0 w0 e0 g0; have G0 := hid g0; clear g0)
  refine (Sqrt_any r0 _).mono ?_
  rintro e w1 ⟨b1, rfl, g1, e1⟩
  have G1 := hid g1
  clear g1
  go_wp2_with fail
  refine (l01Narrow_any b1 _ (by rw [G1.out, G0.out]; exact H.out)).mono ?_
  rintro e w2 ⟨b2, rfl, g2, e2⟩
  have G2 := hid g2
  clear g2
  go_wp2
  go_ret
  exact ⟨b2, rfl, by rw [G2.out, G1.out, G0.out]; rfl, (e0.trans e1).trans e2⟩

/-! Greatest numbers. -/
/-- What a single comes to; infinities are beyond all others. -/
def rk (x : Nat) : Int := match FloatKind.f32.decode x with
  | .infinity s => sg s (pw 5000)
  | .number s m e => sg s (cnt m e)
  | .nan _ _ => 0
theorem rk_lt {s : Bool} {m : Nat} {e : Int} {x : Nat} (h : Ieee.single.read x = .number s m e) : cnt m e < pw 5000 := by
  obtain ⟨h1, h2, h3⟩ := sgl_read h
  unfold cnt
  calc m * 2 ^ (e + 4000).toNat < 2 ^ 24 * 2 ^ (e + 4000).toNat := Nat.mul_lt_mul_of_pos_right (by omega) (Nat.two_pow_pos _)
    _ = 2 ^ (24 + (e + 4000).toNat) := by rw [← Nat.pow_add]
    _ ≤ pw 5000 := pw_le (by omega)
theorem sg_lt (s : Bool) {v P : Nat} (h : v < P) : - (P : Int) < sg s v ∧ sg s v < P := by unfold sg; cases s <;> simp <;> omega
theorem order_rk {x y : Nat} (hx : (FloatKind.f32.decode x).isNaN = false) (hy : (FloatKind.f32.decode y).isNaN = false) : FloatKind.f32.format.order x y = some (compare (rk x) (rk y)) := by
  have hp : (0 : Int) < ((pw 5000 : Nat) : Int) := Int.natCast_pos.2 (pw_pos _)
  cases ex : FloatKind.f32.decode x with
  | nan s f => rw [ex] at hx; cases hx
  | infinity s =>
    have rx : rk x = sg s (pw 5000) := by unfold rk; rw [ex]
    cases ey : FloatKind.f32.decode y with
    | nan s f => rw [ey] at hy; cases hy
    | infinity t =>
      have ry : rk y = sg t (pw 5000) := by unfold rk; rw [ey]
      show (FloatKind.f32.decode x).order (FloatKind.f32.decode y) = _
      rw [ex, ey, rx, ry]
      generalize pw 5000 = P at *
      unfold sg
      cases s <;> cases t
      · exact congrArg some (Eq.trans (b := .eq) rfl (Int.compare_eq_eq.2 rfl).symm)
      · exact congrArg some (Eq.trans (b := .gt) rfl (Int.compare_eq_gt.2 (by simp; omega)).symm)
      · exact congrArg some (Eq.trans (b := .lt) rfl (Int.compare_eq_lt.2 (by simp; omega)).symm)
      · exact congrArg some (Eq.trans (b := .eq) rfl (Int.compare_eq_eq.2 rfl).symm)
    | number t m e =>
      have ry : rk y = sg t (cnt m e) := by unfold rk; rw [ey]
      have hb := sg_lt t (rk_lt (x := y) ey)
      show (FloatKind.f32.decode x).order (FloatKind.f32.decode y) = _
      rw [ex, ey, rx, ry]
      generalize sg t (cnt m e) = Y at *
      generalize pw 5000 = P at *
      show some (if s then _ else _) = _
      congr 1
      unfold sg
      cases s
      · exact (Int.compare_eq_gt.2 (by simp; omega)).symm
      · exact (Int.compare_eq_lt.2 (by simp; omega)).symm
  | number s m e =>
    have rx : rk x = sg s (cnt m e) := by unfold rk; rw [ex]
    have fx : Fin Ieee.single x s (cnt m e) := ⟨m, e, ex, by have := (sgl_read (x := x) ex).2.1; rw [show (Ieee.single).leastPlace = -149 from by decide]; omega, rfl⟩
    cases ey : FloatKind.f32.decode y with
    | nan s f => rw [ey] at hy; cases hy
    | infinity t =>
      have ry : rk y = sg t (pw 5000) := by unfold rk; rw [ey]
      have hb := sg_lt s (rk_lt (x := x) ex)
      show (FloatKind.f32.decode x).order (FloatKind.f32.decode y) = _
      rw [ex, ey, rx, ry]
      generalize sg s (cnt m e) = X at *
      generalize pw 5000 = P at *
      show some (if t then _ else _) = _
      congr 1
      unfold sg
      cases t
      · exact (Int.compare_eq_lt.2 (by simp; omega)).symm
      · exact (Int.compare_eq_gt.2 (by simp; omega)).symm
    | number t m' e' =>
      have ry : rk y = sg t (cnt m' e') := by unfold rk; rw [ey]
      have fy : Fin Ieee.single y t (cnt m' e') := ⟨m', e', ey, by have := (sgl_read (x := y) ey).2.1; rw [show (Ieee.single).leastPlace = -149 from by decide]; omega, rfl⟩
      rw [rx, ry]
      exact fin_order ok_single fx fy
theorem fgt_nan_l {x y : Nat} (h : (FloatKind.f32.decode x).isNaN = true) : fgt .f32 x y = false := by
  unfold fgt; rw [order_nan h]; rfl
theorem fgt_nan_r {x y : Nat} (h : (FloatKind.f32.decode y).isNaN = true) : fgt .f32 x y = false := by
  have : FloatKind.f32.format.order x y = none := by
    show (FloatKind.f32.decode x).order (FloatKind.f32.decode y) = _
    exact order_nan_r h
  unfold fgt; rw [this]; rfl
theorem fgt_rk {x y : Nat} (hx : (FloatKind.f32.decode x).isNaN = false) (hy : (FloatKind.f32.decode y).isNaN = false) : fgt .f32 x y = decide (rk y < rk x) := by
  unfold fgt; rw [order_rk hx hy]
  by_cases h : rk y < rk x
  · rw [Int.compare_eq_gt.2 h, decide_eq_true h]; rfl
  · rw [decide_eq_false h]
    rcases Int.lt_or_eq_of_le (Int.not_lt.1 h) with h' | h'
    · rw [Int.compare_eq_lt.2 h']; rfl
    · rw [Int.compare_eq_eq.2 h']; rfl
theorem fgt_trans {x y z : Nat} (h : fgt .f32 x y = true) (k : fgt .f32 y z = true) : fgt .f32 x z = true := by
  cases hx : (FloatKind.f32.decode x).isNaN
  · cases hy : (FloatKind.f32.decode y).isNaN
    · cases hz : (FloatKind.f32.decode z).isNaN
      · rw [fgt_rk hx hy] at h
        rw [fgt_rk hy hz] at k
        rw [fgt_rk hx hz]
        have h := of_decide_eq_true h
        have k := of_decide_eq_true k
        exact decide_eq_true (by omega)
      · rw [fgt_nan_r hz] at k; cases k
    · rw [fgt_nan_r hy] at h; cases h
  · rw [fgt_nan_l hx] at h; cases h
theorem fgt_self (x : Nat) : fgt .f32 x x = false := by
  cases hx : (FloatKind.f32.decode x).isNaN
  · rw [fgt_rk hx hx]; exact decide_eq_false (Int.lt_irrefl _)
  · exact fgt_nan_l hx
/-- The first of the greatest of the first numbers. -/
def gi (xs : List Nat) : Nat → Nat
  | 0 => 0
  | j + 1 => if fgt .f32 (xs.getD j 0) (xs.getD (gi xs j) 0) then j else gi xs j
theorem gi_lt (xs : List Nat) : ∀ {j : Nat}, 0 < j → gi xs j < j
  | 1, _ => by
    show (if fgt .f32 (xs.getD 0 0) (xs.getD 0 0) then 0 else 0) < 1
    split <;> omega
  | j + 2, _ => by
    have := gi_lt xs (j := j + 1) (by omega)
    have e : gi xs (j + 1 + 1) = if fgt .f32 (xs.getD (j + 1) 0) (xs.getD (gi xs (j + 1)) 0) then j + 1 else gi xs (j + 1) := rfl
    rw [e]
    split <;> omega
theorem gi_one (xs : List Nat) : gi xs 1 = 0 := by have := gi_lt xs (j := 1) (by omega); omega
theorem gi_max (xs : List Nat) : ∀ (j i : Nat), i < j → fgt .f32 (xs.getD i 0) (xs.getD (gi xs j) 0) = false
  | 0, _, h => by omega
  | j + 1, i, h => by
    have e : gi xs (j + 1) = if fgt .f32 (xs.getD j 0) (xs.getD (gi xs j) 0) then j else gi xs j := rfl
    cases hc : fgt .f32 (xs.getD j 0) (xs.getD (gi xs j) 0)
    · rw [e, hc]
      by_cases hij : i = j
      · subst hij; exact hc
      · exact gi_max xs j i (by omega)
    · rw [e, hc, if_pos rfl]
      by_cases hij : i = j
      · subst hij; exact fgt_self _
      · cases h2 : fgt .f32 (xs.getD i 0) (xs.getD j 0)
        · rfl
        · have := fgt_trans h2 hc
          rw [gi_max xs j i (by omega)] at this; cases this
theorem gt_eq (a b : Nat) : (FloatKind.f32.format.order a b == some .gt) = fgt .f32 (cn .f32 a) (cn .f32 b) := by rw [fgt_cn]; rfl

set_option maxRecDepth 100000 in
set_option maxHeartbeats 1000000 in
theorem greatestOf_any (p : Option Addr) (n c : Nat) (us : List Value) (xs : List Nat) (w : World) (hx : xs.length = n) (h1 : 1 ≤ n) (hn : n ≤ maxLen) (hp : Cs w p us) (hf : F32s us xs) :
    Calls Try.prog 156 #[.slice p n c] w fun e w' => e = .returned (.int .i64 (gi xs n)) ∧ Ext w w' := by
  unfold maxLen at hn
  have X := hid hx
  clear hx
  go_enter Try.func156, Try.ntmps156
  go_wp2
  go_loopw [3, 8] (fun kv iv wr => ∃ (i : Nat), i ≤ n ∧ iv = .int .i64 i ∧ kv = .int .i64 (gi xs i) ∧ Ext w wr) (fun _ iv _ => n - (intOf iv).toNat)
  case atStart => exact ⟨0, by omega, rfl, rfl, Ext.refl _⟩
  case round =>
    obtain ⟨i, hi, rfl, rfl, he⟩ := hrel
    by_cases hlt : i < n
    · have k1 := hp.ext he
      have hg : gi xs i < n := by
        rcases Nat.eq_zero_or_pos i with h | h
        · subst h; show 0 < n; omega
        · have := gi_lt xs h; omega
      have hs : gi xs (i + 1) = if fgt .f32 (xs.getD i 0) (xs.getD (gi xs i) 0) then i else gi xs i := rfl
      have HS := hid hs
      clear hs
      generalize gi xs i = k at *
      go_wp2_with ((with_reducible show wpList _ _ _ (Oper.mk _ (Op.indexAddr _ _ _) _ _ _ _ :: Oper.mk _ (Op.load _ _) _ _ _ _ :: _) _ _); refine wl_ldF rfl rfl rfl rfl (fun _ => rfl) rfl rfl k1 hf X.out (by omega) (by omega) ?_; first | (have zz := G1; intro r2 g2; have G2 := hid g2; clear g2 zz) | (intro r1 g1; have G1 := hid g1; clear g1))
      all_goals go_roundw
      all_goals first
        | (case rel =>
            refine ⟨i + 1, by omega, by go_num, ?_, he⟩
            rename_i hc
            have q1 := G1.out
            have q2 := G2.out
            simp only [Int.toNat_natCast] at q1 q2
            have hh := gt_eq r1 r2
            rw [q1, q2] at hh
            rw [HS.out]
            first
              | (rw [hc] at hh; rw [← hh]; rfl)
              | (rw [decide_eq_true hc] at hh; rw [← hh]; rfl))
        | (case measure => simp [intOf]; omega)
    · obtain rfl : i = n := by omega
      go_wp2
      go_ret
      exact ⟨rfl, he⟩
end Go.Proofs.Ytnlhahlegedlaaa
