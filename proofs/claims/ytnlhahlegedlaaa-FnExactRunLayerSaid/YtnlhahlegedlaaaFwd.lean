/- The forward pass: what is made of numbers. -/
import Derived.Test.YtnlhahlegedlaaaRnd3
import Derived.Test.YtnlhahlegedlaaaF32
import Derived.Test.YtnlhahlegedlaaaMem2
import Derived.Test.YtnlhahlegedlaaaHar
namespace Go.Proofs.Ytnlhahlegedlaaa
set_option linter.unusedSimpArgs false
set_option linter.unusedVariables false
open Go.RowKit

/-- A number is returned, this one up to which not-a-number it is. -/
def RF (k : FloatKind) (w : World) (r : Nat) (e : Ending) (w' : World) : Prop := ∃ b, e = .returned (.float k b) ∧ cn k b = r ∧ Ext w w'
def dotG (f g : Nat → Nat) : Nat → Nat
  | 0 => 0
  | i + 1 => fop .add .f32 (dotG f g i) (fop .mul .f32 (f i) (g i))
def sumG (f : Nat → Nat) : Nat → Nat
  | 0 => 0
  | i + 1 => fop .add .f32 (sumG f i) (f i)
theorem cn0 : cn .f32 0 = 0 := by decide +kernel
theorem dotG_congr {f f' g g' : Nat → Nat} : ∀ {n : Nat}, (∀ i, i < n → f i = f' i) → (∀ i, i < n → g i = g' i) → dotG f g n = dotG f' g' n
  | 0, _, _ => rfl
  | n + 1, h, h' => by unfold dotG; rw [dotG_congr (fun i hi => h i (by omega)) (fun i hi => h' i (by omega)), h n (by omega), h' n (by omega)]

set_option maxRecDepth 100000 in
set_option maxHeartbeats 1000000 in
theorem dot_any (p q : Option Addr) (n c m d : Nat) (us vs : List Value) (xs ys : List Nat) (w : World) (hx : xs.length = n) (hy : ys.length = m) (hm : n ≤ m) (hn : m ≤ maxLen) (hp : Cs w p us) (hf : F32s us xs) (hq : Cs w q vs) (hg : F32s vs ys) :
    Calls Try.prog 176 #[.slice p n c, .slice q m d] w (RF .f32 w (dotG (fun j => xs.getD j 0) (fun j => ys.getD j 0) n)) := by
  unfold maxLen at hn
  have X := hid hx
  have Y := hid hy
  clear hx hy
  go_enter Try.func176, Try.ntmps176
  go_wp2
  go_loopw [5, 9] (fun sv iv wr => ∃ (i b : Nat), i ≤ n ∧ iv = .int .i64 i ∧ sv = .float .f32 b ∧ Hid (cn .f32 b = dotG (fun j => xs.getD j 0) (fun j => ys.getD j 0) i) ∧ Ext w wr) (fun _ iv _ => n - (intOf iv).toNat)
  case atStart => exact ⟨0, 0, by omega, rfl, rfl, cn0, Ext.refl _⟩
  case round =>
    obtain ⟨i, b, hi, rfl, rfl, HB, he⟩ := hrel
    by_cases hlt : i < n
    · have k1 := hp.ext he
      have k2 := hq.ext he
      go_wp2
      replace k1 := k1.ext (Ext.drew _)
      replace k2 := k2.ext (Ext.drew _)
      refine wp_region_xall (F := fun _ _ _ => False) (by kernel_rfl) (by kernel_rfl) (by kernel_rfl) ?_
      intro wf hwf
      repeat (first
        | (refine x_skip rfl ?_; simp only [Act.put, ev_tmp, List.setIfInBounds_toArray, List.set_cons_succ, List.set_cons_zero, List.getD_cons_succ, List.getD_cons_zero])
        | (refine x_mv rfl rfl rfl ?_; simp only [Act.put, ev_tmp, List.setIfInBounds_toArray, List.set_cons_succ, List.set_cons_zero, List.getD_cons_succ, List.getD_cons_zero])
        | (refine x_as rfl rfl rfl ?_; simp only [Act.put, ev_tmp, List.setIfInBounds_toArray, List.set_cons_succ, List.set_cons_zero, List.getD_cons_succ, List.getD_cons_zero])
        | ((with_reducible show wpX _ _ _ _ _ _ (Oper.mk _ (Op.indexAddr _ _ _) _ _ _ _ :: Oper.mk _ (Op.load _ _) _ _ _ _ :: _) _); refine x_ldF rfl rfl (fun _ => rfl) rfl (fun _ => rfl) rfl rfl k1 hf X.out (by omega) (by omega) ?_; intro r1 g1; have G1 := hid g1; clear g1; simp only [Act.put, ev_tmp, List.setIfInBounds_toArray, List.set_cons_succ, List.set_cons_zero, List.getD_cons_succ, List.getD_cons_zero])
        | ((with_reducible show wpX _ _ _ _ _ _ (Oper.mk _ (Op.indexAddr _ _ _) _ _ _ _ :: Oper.mk _ (Op.load _ _) _ _ _ _ :: _) _); refine x_ldF rfl rfl (fun _ => rfl) rfl (fun _ => rfl) rfl rfl k2 hg Y.out (by omega) (by omega) ?_; intro r2 g2; have G2 := hid g2; clear g2; simp only [Act.put, ev_tmp, List.setIfInBounds_toArray, List.set_cons_succ, List.set_cons_zero, List.getD_cons_succ, List.getD_cons_zero])
        | ((with_reducible show wpX _ _ _ _ _ _ (Oper.mk _ (Op.binOp _ _ _ _ _) _ _ _ _ :: _) _); refine x_fop rfl rfl rfl rfl rfl ?_; first | (have zz := G3; intro r4 g4; have G4 := hid g4; clear g4 zz) | (intro r3 g3; have G3 := hid g3; clear g3); simp only [Act.put, ev_tmp, List.setIfInBounds_toArray, List.set_cons_succ, List.set_cons_zero, List.getD_cons_succ, List.getD_cons_zero])
        | (refine x_run rfl fun K hK w1 hw1 => ?_; go_simp; refine hK _ ?_; clear hK K  hw1 w1))
      refine x_nil ?_
      go_wp2
      go_roundw
      case rel =>
        refine ⟨i + 1, _, by omega, by go_num, rfl, ?_, (he.trans (Ext.drew _)).trans hwf⟩
        have q1 := G1.out
        have q2 := G2.out
        simp only [Int.toNat_natCast] at q1 q2
        rw [Hid, G4.out, HB.out, G3.out, q1, q2]; rfl
      case measure => simp [intOf]; omega
    · obtain rfl : i = n := by omega
      go_wp2
      go_ret
      exact ⟨b, rfl, HB.out, he⟩
set_option maxRecDepth 100000 in
set_option maxHeartbeats 1000000 in
theorem l01Dot_any (p q : Option Addr) (n c m d : Nat) (us vs : List Value) (xs ys : List Nat) (w : World) (hx : xs.length = n) (hy : ys.length = m) (hm : n ≤ m) (hn : m ≤ maxLen) (hp : Cs w p us) (hf : F32s us xs) (hq : Cs w q vs) (hg : F32s vs ys) :
    Calls Try.prog 211 #[.slice p n c, .slice q m d] w (RF .f32 w (dotG (fun j => xs.getD j 0) (fun j => ys.getD j 0) n)) := by
  unfold maxLen at hn
  have X := hid hx
  have Y := hid hy
  clear hx hy
  go_enter Try.func211, Try.ntmps211
  go_wp2
  go_loopw [5, 6] (fun sv iv wr => ∃ (i b : Nat), i ≤ n ∧ iv = .int .i64 i ∧ sv = .float .f32 b ∧ Hid (cn .f32 b = dotG (fun j => xs.getD j 0) (fun j => ys.getD j 0) i) ∧ Ext w wr) (fun _ iv _ => n - (intOf iv).toNat)
  case atStart => exact ⟨0, 0, by omega, rfl, rfl, cn0, Ext.refl _⟩
  case round =>
    obtain ⟨i, b, hi, rfl, rfl, HB, he⟩ := hrel
    by_cases hlt : i < n
    · have k1 := hp.ext he
      have k2 := hq.ext he
      go_wp2
      replace k1 := k1.ext (Ext.drew _)
      replace k2 := k2.ext (Ext.drew _)
      refine wp_region_xall (F := fun _ _ _ => False) (by kernel_rfl) (by kernel_rfl) (by kernel_rfl) ?_
      intro wf hwf
      repeat (first
        | (refine x_skip rfl ?_; simp only [Act.put, ev_tmp, List.setIfInBounds_toArray, List.set_cons_succ, List.set_cons_zero, List.getD_cons_succ, List.getD_cons_zero])
        | (refine x_mv rfl rfl rfl ?_; simp only [Act.put, ev_tmp, List.setIfInBounds_toArray, List.set_cons_succ, List.set_cons_zero, List.getD_cons_succ, List.getD_cons_zero])
        | (refine x_as rfl rfl rfl ?_; simp only [Act.put, ev_tmp, List.setIfInBounds_toArray, List.set_cons_succ, List.set_cons_zero, List.getD_cons_succ, List.getD_cons_zero])
        | ((with_reducible show wpX _ _ _ _ _ _ (Oper.mk _ (Op.indexAddr _ _ _) _ _ _ _ :: Oper.mk _ (Op.load _ _) _ _ _ _ :: _) _); refine x_ldF rfl rfl (fun _ => rfl) rfl (fun _ => rfl) rfl rfl k1 hf X.out (by omega) (by omega) ?_; intro r1 g1; have G1 := hid g1; clear g1; simp only [Act.put, ev_tmp, List.setIfInBounds_toArray, List.set_cons_succ, List.set_cons_zero, List.getD_cons_succ, List.getD_cons_zero])
        | ((with_reducible show wpX _ _ _ _ _ _ (Oper.mk _ (Op.indexAddr _ _ _) _ _ _ _ :: Oper.mk _ (Op.load _ _) _ _ _ _ :: _) _); refine x_ldF rfl rfl (fun _ => rfl) rfl (fun _ => rfl) rfl rfl k2 hg Y.out (by omega) (by omega) ?_; intro r2 g2; have G2 := hid g2; clear g2; simp only [Act.put, ev_tmp, List.setIfInBounds_toArray, List.set_cons_succ, List.set_cons_zero, List.getD_cons_succ, List.getD_cons_zero])
        | ((with_reducible show wpX _ _ _ _ _ _ (Oper.mk _ (Op.binOp _ _ _ _ _) _ _ _ _ :: _) _); refine x_fop rfl rfl rfl rfl rfl ?_; first | (have zz := G3; intro r4 g4; have G4 := hid g4; clear g4 zz) | (intro r3 g3; have G3 := hid g3; clear g3); simp only [Act.put, ev_tmp, List.setIfInBounds_toArray, List.set_cons_succ, List.set_cons_zero, List.getD_cons_succ, List.getD_cons_zero])
        | (refine x_run rfl fun K hK w1 hw1 => ?_; go_simp; refine hK _ ?_; clear hK K  hw1 w1))
      refine x_nil ?_
      go_wp2
      go_roundw
      case rel =>
        refine ⟨i + 1, _, by omega, by go_num, rfl, ?_, (he.trans (Ext.drew _)).trans hwf⟩
        have q1 := G1.out
        have q2 := G2.out
        simp only [Int.toNat_natCast] at q1 q2
        rw [Hid, G4.out, HB.out, G3.out, q1, q2]; rfl
      case measure => simp [intOf]; omega
    · obtain rfl : i = n := by omega
      go_wp2
      go_ret
      exact ⟨b, rfl, HB.out, he⟩
set_option maxRecDepth 100000 in
set_option maxHeartbeats 1000000 in
theorem sumOf_any (p : Option Addr) (n c : Nat) (us : List Value) (xs : List Nat) (w : World) (hx : xs.length = n) (hn : n ≤ maxLen) (hp : Cs w p us) (hf : F32s us xs) :
    Calls Try.prog 216 #[.slice p n c] w (RF .f32 w (sumG (fun j => xs.getD j 0) n)) := by
  unfold maxLen at hn
  have X := hid hx
  clear hx
  go_enter Try.func216, Try.ntmps216
  go_wp2
  go_loopw [3, 8] (fun sv iv wr => ∃ (i b : Nat), i ≤ n ∧ iv = .int .i64 i ∧ sv = .float .f32 b ∧ Hid (cn .f32 b = sumG (fun j => xs.getD j 0) i) ∧ Ext w wr) (fun _ iv _ => n - (intOf iv).toNat)
  case atStart => exact ⟨0, 0, by omega, rfl, rfl, cn0, Ext.refl _⟩
  case round =>
    obtain ⟨i, b, hi, rfl, rfl, HB, he⟩ := hrel
    by_cases hlt : i < n
    · have k1 := hp.ext he
      go_wp2_with (first | ((with_reducible show wpList _ _ _ (Oper.mk _ (Op.indexAddr _ _ _) _ _ _ _ :: Oper.mk _ (Op.load _ _) _ _ _ _ :: _) _ _); refine wl_ldF rfl rfl rfl rfl (fun _ => rfl) rfl rfl k1 hf X.out (by omega) (by omega) ?_; intro r1 g1; have G1 := hid g1; clear g1) | ((with_reducible show wpList _ _ _ (Oper.mk _ (Op.binOp _ _ _ _ _) _ _ _ _ :: _) _ _); refine wl_fop rfl rfl rfl rfl rfl ?_; intro r3 w3 e3 g3; have G3 := hid g3; clear g3))
      go_roundw
      case rel =>
        refine ⟨i + 1, _, by omega, by go_num, rfl, ?_, he.trans (by with_reducible assumption)⟩
        have q1 := G1.out
        simp only [Int.toNat_natCast] at q1
        rw [Hid, G3.out, HB.out, q1]; rfl
      case measure => simp [intOf]; omega
    · obtain rfl : i = n := by omega
      go_wp2
      go_ret
      exact ⟨b, rfl, HB.out, he⟩
set_option maxRecDepth 100000 in
set_option maxHeartbeats 1000000 in
theorem l01Sum_any (p : Option Addr) (n c : Nat) (us : List Value) (xs : List Nat) (w : World) (hx : xs.length = n) (hn : n ≤ maxLen) (hp : Cs w p us) (hf : F32s us xs) :
    Calls Try.prog 210 #[.slice p n c] w (RF .f32 w (sumG (fun j => xs.getD j 0) n)) := by
  unfold maxLen at hn
  have X := hid hx
  clear hx
  go_enter Try.func210, Try.ntmps210
  go_wp2
  go_loopw [3, 4] (fun sv iv wr => ∃ (i b : Nat), i ≤ n ∧ iv = .int .i64 i ∧ sv = .float .f32 b ∧ Hid (cn .f32 b = sumG (fun j => xs.getD j 0) i) ∧ Ext w wr) (fun _ iv _ => n - (intOf iv).toNat)
  case atStart => exact ⟨0, 0, by omega, rfl, rfl, cn0, Ext.refl _⟩
  case round =>
    obtain ⟨i, b, hi, rfl, rfl, HB, he⟩ := hrel
    by_cases hlt : i < n
    · have k1 := hp.ext he
      go_wp2_with (first | ((with_reducible show wpList _ _ _ (Oper.mk _ (Op.indexAddr _ _ _) _ _ _ _ :: Oper.mk _ (Op.load _ _) _ _ _ _ :: _) _ _); refine wl_ldF rfl rfl rfl rfl (fun _ => rfl) rfl rfl k1 hf X.out (by omega) (by omega) ?_; intro r1 g1; have G1 := hid g1; clear g1) | ((with_reducible show wpList _ _ _ (Oper.mk _ (Op.binOp _ _ _ _ _) _ _ _ _ :: _) _ _); refine wl_fop rfl rfl rfl rfl rfl ?_; intro r3 w3 e3 g3; have G3 := hid g3; clear g3))
      go_roundw
      case rel =>
        refine ⟨i + 1, _, by omega, by go_num, rfl, ?_, he.trans (by with_reducible assumption)⟩
        have q1 := G1.out
        simp only [Int.toNat_natCast] at q1
        rw [Hid, G3.out, HB.out, q1]; rfl
      case measure => simp [intOf]; omega
    · obtain rfl : i = n := by omega
      go_wp2
      go_ret
      exact ⟨b, rfl, HB.out, he⟩

/-- The greater of a number and nought. -/
def reluF (x : Nat) : Nat := if fgt .f32 x 0 || !(feq .f32 x x) then x else 0
set_option maxRecDepth 100000 in
set_option maxHeartbeats 1000000 in
theorem relu_any (b : Nat) (w : World) : Calls Try.prog 177 #[.float .f32 b] w (RF .f32 w (reluF (cn .f32 b))) := by
  have h0 : cn .f32 0 = 0 := by decide +kernel
  have f1 := fgt_cn .f32 b 0
  have f2 := feq_cn .f32 b b
  rw [h0] at f1
  have hr : reluF (cn .f32 b) = if fgt .f32 b 0 || !(feq .f32 b b) then cn .f32 b else 0 := by unfold reluF; rw [f1, f2]
  cases ha : fgt .f32 b 0
  · cases hb : feq .f32 b b
    · have a1 : (FloatKind.f32.format.order b 0 == some .gt) = false := ha
      have a2 : (FloatKind.f32.format.order b b != some .eq) = true := by unfold feq at hb; unfold bne; rw [hb]; rfl
      rw [ha, hb] at hr
      go_enter Try.func177, Try.ntmps177
      go_wp2
      go_ret
      exact ⟨b, rfl, by rw [hr]; rfl, Ext.refl _⟩
    · have a1 : (FloatKind.f32.format.order b 0 == some .gt) = false := ha
      have a2 : (FloatKind.f32.format.order b b != some .eq) = false := by unfold feq at hb; unfold bne; rw [hb]; rfl
      rw [ha, hb] at hr
      go_enter Try.func177, Try.ntmps177
      go_wp2
      go_ret
      exact ⟨0, rfl, by rw [hr, h0]; rfl, Ext.refl _⟩
  · have a1 : (FloatKind.f32.format.order b 0 == some .gt) = true := ha
    rw [ha] at hr
    go_enter Try.func177, Try.ntmps177
    go_wp2
    go_ret
    exact ⟨b, rfl, by rw [hr]; rfl, Ext.refl _⟩
set_option maxRecDepth 100000 in
set_option maxHeartbeats 1000000 in
theorem l03Relu_any (b : Nat) (w : World) : Calls Try.prog 171 #[.float .f32 b] w (RF .f32 w (reluF (cn .f32 b))) := by
  have h0 : cn .f32 0 = 0 := by decide +kernel
  have f1 := fgt_cn .f32 b 0
  have f2 := feq_cn .f32 b b
  rw [h0] at f1
  have hr : reluF (cn .f32 b) = if fgt .f32 b 0 || !(feq .f32 b b) then cn .f32 b else 0 := by unfold reluF; rw [f1, f2]
  cases ha : fgt .f32 b 0
  · cases hb : feq .f32 b b
    · have a1 : (FloatKind.f32.format.order b 0 == some .gt) = false := ha
      have a2 : (FloatKind.f32.format.order b b != some .eq) = true := by unfold feq at hb; unfold bne; rw [hb]; rfl
      rw [ha, hb] at hr
      go_enter Try.func171, Try.ntmps171
      go_wp2
      go_ret
      exact ⟨b, rfl, by rw [hr]; rfl, Ext.refl _⟩
    · have a1 : (FloatKind.f32.format.order b 0 == some .gt) = false := ha
      have a2 : (FloatKind.f32.format.order b b != some .eq) = false := by unfold feq at hb; unfold bne; rw [hb]; rfl
      rw [ha, hb] at hr
      go_enter Try.func171, Try.ntmps171
      go_wp2
      go_ret
      exact ⟨0, rfl, by rw [hr, h0]; rfl, Ext.refl _⟩
  · have a1 : (FloatKind.f32.format.order b 0 == some .gt) = true := ha
    rw [ha] at hr
    go_enter Try.func171, Try.ntmps171
    go_wp2
    go_ret
    exact ⟨b, rfl, by rw [hr]; rfl, Ext.refl _⟩
end Go.Proofs.Ytnlhahlegedlaaa
