/- The harness on floats and lists of floats. -/
import Derived.Test.YtnlhahlegedlaaaSh
import Derived.Test.YtnlhahlegedlaaaI64
namespace Go.Proofs.Ytnlhahlegedlaaa
set_option linter.unusedSimpArgs false
set_option linter.unusedVariables false
open Go.RowKit

theorem order_self {k : FloatKind} {x : Nat} (h : (k.decode x).isNaN = false) : k.format.order x x = some .eq := by
  unfold Ieee.Format.order
  rw [decode_eq]
  cases hd : k.decode x with
  | nan s f => rw [hd] at h; simp [Ieee.Datum.isNaN] at h
  | infinity s => simp [Ieee.Datum.order]
  | number s m e => simp [Ieee.Datum.order]
theorem order_nan {k : FloatKind} {x : Nat} (h : (k.decode x).isNaN = true) (y : Nat) : k.format.order x y = none := by
  unfold Ieee.Format.order; rw [decode_eq, decode_eq]; exact order_nan_l h
theorem isNaN_of_cn {k : FloatKind} {x y : Nat} (h : cn k x = cn k y) : (k.decode x).isNaN = (k.decode y).isNaN := by
  rw [← isNaN_cn k x, h, isNaN_cn]
theorem eq_of_cn {k : FloatKind} {x y : Nat} (h : cn k x = cn k y) (hx : (k.decode x).isNaN = false) : x = y := by
  have hy : (k.decode y).isNaN = false := by rw [← isNaN_of_cn h]; exact hx
  rw [cn_not hx, cn_not hy] at h; exact h
theorem order_of_cn {k : FloatKind} {x x' y : Nat} (h : cn k x = cn k x') : k.format.order x y = k.format.order x' y := by
  rw [← order_cn k x y, h, order_cn]

set_option maxRecDepth 100000 in
set_option maxHeartbeats 1000000 in
theorem sameFloat_true (a b : Nat) (w : World) (h : cn .f64 a = cn .f64 b) :
    Calls Try.prog 96 #[.float .f64 a, .float .f64 b] w fun e w' => e = .returned (.bool true) ∧ Ext w w' := by
  by_cases hn : (FloatKind.f64.decode a).isNaN = true
  · have ha : (FloatKind.f64.format.order a a != some .eq) = true := by rw [order_nan hn]; rfl
    have hb : (FloatKind.f64.format.order b b != some .eq) = true := by rw [order_nan (by rw [← isNaN_of_cn h]; exact hn)]; rfl
    clear h hn
    go_enter Try.func96, Try.ntmps96
    go_wp2
    go_ret
    exact ⟨rfl, Ext.refl _⟩
  · have hn' : (FloatKind.f64.decode a).isNaN = false := by simpa using hn
    obtain rfl := eq_of_cn h hn'
    have ha : (FloatKind.f64.format.order a a != some .eq) = false := by rw [order_self hn']; rfl
    have ha2 : (FloatKind.f64.format.order a a == some .eq) = true := by rw [order_self hn']; rfl
    clear h hn hn'
    by_cases hz : (FloatKind.f64.format.order a 0 == some .eq) = true
    · go_enter Try.func96, Try.ntmps96
      go_wp2_with (refine wl_fop rfl rfl rfl rfl rfl ?_; intro r1 w1 e1 hr1; have Hr1 := hid hr1; clear hr1)
      rename_i r0 w0 e0 H0
      have hg : FloatKind.f64.format.order r1 0 = FloatKind.f64.format.order r0 0 := order_of_cn (by rw [Hr1.out, H0.out])
      go_ret
      refine ⟨ret_bool ?_, e0.trans e1⟩
      rw [hg]; simp
    · have hz' : (FloatKind.f64.format.order a 0 == some .eq) = false := by simpa using hz
      go_enter Try.func96, Try.ntmps96
      go_wp2
      go_ret
      exact ⟨rfl, Ext.refl _⟩

theorem F32s.get {vs : List Value} {xs : List Nat} (h : F32s vs xs) {i : Nat} (hi : i < xs.length) : ∃ b, vs[i]? = some (.float .f32 b) ∧ cn .f32 b = xs.getD i 0 := h.2 i hi
theorem F32s.nil : F32s [] [] := ⟨rfl, fun i hi => by simp at hi⟩

set_option maxRecDepth 100000 in
set_option maxHeartbeats 1000000 in
theorem toFloat32S_any (p : Option Addr) (n c : Nat) (vs : List Value) (xs : List Nat) (w : World) (hx : xs.length = n) (hn : n ≤ 1073741824) (hc : Cs w p vs) (hf : F32s vs xs) :
    Calls Try.prog 35 #[.slice p n c] w fun e w' => ∃ g, e = .returned (.slice (some ⟨g, 0, none⟩) n n) ∧ w'.ownsRow w.heap.size 26 1 (.slice (some ⟨g, 0, none⟩) n n) n vs ∧ Ext w w' := by
  have Hx := hid hx
  have Hv := hid (hf.1.trans hx)
  clear hx
  go_enter Try.func35, Try.ntmps35
  go_wp2_with (refine wl_make w.heap.size n rfl rfl rfl rfl (by unfold maxLen; omega) (by omega) (Nat.le_refl _) ?_; intro g w1 own1 e1)
  go_loopw [4] (fun iv wr => ∃ (i : Nat) (us : List Value), i ≤ n ∧ iv = .int .i64 i ∧ wr.ownsRow w.heap.size 26 1 (.slice (some ⟨g, 0, none⟩) n n) n us ∧ Hid (us.length = n) ∧ Hid (∀ j, j < i → us[j]? = vs[j]?) ∧ Ext w wr) (fun iv _ => n - (intOf iv).toNat)
  case atStart => exact ⟨0, _, by omega, rfl, own1, own1.1.trans (Nat.mul_one n), fun j hj => by omega, e1⟩
  case round =>
    clear own1 e1
    obtain ⟨i, us, hi, rfl, own1, Hu, Hall, e1⟩ := hrel
    by_cases hlt : i < n
    · obtain ⟨b, hb, _⟩ := hf.get (i := i) (by rw [Hx.out]; exact hlt)
      have Hb := hid hb
      clear hb
      have hcw := hc.ext e1
      go_wp2_with (first | (refine wl_idxload rfl rfl rfl rfl (fun _ => rfl) rfl rfl hcw Hv.out (by omega) (by omega) ?_; intro u hu; rw [Int.toNat_natCast, Hb.out] at hu; cases hu) | (refine wl_idxstore (u := .float .f32 b) rfl rfl rfl rfl (fun _ => rfl) rfl rfl (fun _ => rfl) rfl own1 (by omega) (by omega) ?_; intro w2 own2 g2))
      go_roundw
      case rel =>
        refine ⟨i + 1, _, by omega, by go_num, own2, by rw [Hid, List.length_set]; exact Hu.out, fun j hj => ?_, e1.grown g2 (fun k hk => (own_le own1 k hk))⟩
        rw [Int.toNat_natCast, List.getElem?_set]
        by_cases hji : i = j
        · subst hji; rw [if_pos rfl, if_pos (by rw [Hu.out]; exact hlt), Hb.out]
        · rw [if_neg hji]; exact Hall j (by omega)
      case measure => simp [intOf]; omega
    · obtain rfl : i = n := by omega
      go_wp2
      go_ret
      have : us = vs := by
        apply List.ext_getElem?
        intro j
        by_cases hj : j < i
        · exact Hall j hj
        · rw [List.getElem?_eq_none (by rw [Hu.out]; omega), List.getElem?_eq_none (by rw [Hv.out]; omega)]
      subst this
      exact ⟨g, rfl, own1, e1⟩

theorem underlying_f64 : Try.prog.underlying 141 = some (.float .f64) := by kernel_rfl
theorem underlying_f32 : Try.prog.underlying 26 = some (.float .f32) := by kernel_rfl

set_option maxRecDepth 100000 in
set_option maxHeartbeats 1000000 in
theorem eqFloat32S_true (p q : Option Addr) (n c d : Nat) (us vs : List Value) (xs : List Nat) (w : World) (hx : xs.length = n) (hn : n ≤ 1073741824) (hp : Cs w p us) (hq : Cs w q vs) (hu : F32s us xs) (hv : F32s vs xs) :
    Calls Try.prog 37 #[.slice p n c, .slice q n d] w fun e w' => e = .returned (.bool true) ∧ Ext w w' := by
  have Hx := hid hx
  clear hx
  go_enter Try.func37, Try.ntmps37
  go_wp2
  go_loopw [5] (fun iv wr => ∃ i : Nat, i ≤ n ∧ iv = .int .i64 i ∧ Ext w wr) (fun iv _ => n - (intOf iv).toNat)
  case atStart => exact ⟨0, by omega, rfl, Ext.refl w⟩
  case round =>
    obtain ⟨i, hi, rfl, he⟩ := hrel
    by_cases hlt : i < n
    · have hp' := (hp.ext he).ext (Ext.drew wr)
      have hq' := (hq.ext he).ext (Ext.drew wr)
      go_wp2_with fail
      refine wp_region_xall (F := fun _ _ u => u = .bool true) (by kernel_rfl) (by kernel_rfl) (by kernel_rfl) ?_
      intro wf hwf
      refine x_mv rfl rfl rfl ?_
      simp only [Act.put, ev_tmp, List.setIfInBounds_toArray, List.set_cons_succ, List.set_cons_zero, List.getD_cons_succ, List.getD_cons_zero]
      refine x_mv rfl rfl rfl ?_
      simp only [Act.put, ev_tmp, List.setIfInBounds_toArray, List.set_cons_succ, List.set_cons_zero, List.getD_cons_succ, List.getD_cons_zero]
      refine x_ldF rfl rfl (fun _ => rfl) rfl (fun _ => rfl) rfl rfl (hp') (hu) (Hx.out) (by omega) (by omega) ?_
      intro r1 h1
      simp only [Act.put, ev_tmp, List.setIfInBounds_toArray, List.set_cons_succ, List.set_cons_zero, List.getD_cons_succ, List.getD_cons_zero]
      refine x_conv rfl rfl rfl (by kernel_rfl) underlying_f64 (fover_widen _) ?_
      intro r2 h2
      simp only [Act.put, ev_tmp, List.setIfInBounds_toArray, List.set_cons_succ, List.set_cons_zero, List.getD_cons_succ, List.getD_cons_zero]
      refine x_mv rfl rfl rfl ?_
      simp only [Act.put, ev_tmp, List.setIfInBounds_toArray, List.set_cons_succ, List.set_cons_zero, List.getD_cons_succ, List.getD_cons_zero]
      refine x_mv rfl rfl rfl ?_
      simp only [Act.put, ev_tmp, List.setIfInBounds_toArray, List.set_cons_succ, List.set_cons_zero, List.getD_cons_succ, List.getD_cons_zero]
      refine x_ldF rfl rfl (fun _ => rfl) rfl (fun _ => rfl) rfl rfl (hq') (hv) (Hx.out) (by omega) (by omega) ?_
      intro r3 h3
      simp only [Act.put, ev_tmp, List.setIfInBounds_toArray, List.set_cons_succ, List.set_cons_zero, List.getD_cons_succ, List.getD_cons_zero]
      refine x_conv rfl rfl rfl (by kernel_rfl) underlying_f64 (fover_widen _) ?_
      intro r4 h4
      simp only [Act.put, ev_tmp, List.setIfInBounds_toArray, List.set_cons_succ, List.set_cons_zero, List.getD_cons_succ, List.getD_cons_zero]
      have hcn : cn .f64 r2 = cn .f64 r4 := by rw [h2, h4, h1, h3]
      refine x_callf (f := 96) (args := #[.float .f64 r2, .float .f64 r4]) rfl rfl Try.func96 rfl (by kernel_rfl) (by simp [Act.eval]) (fun w1 hw1 => (sameFloat_true r2 r4 w1 hcn).mono fun e w3 h => ⟨_, h.1, h.2, rfl⟩) ?_
      rintro u w3 _ _ rfl
      simp only [Act.put, ev_tmp, List.setIfInBounds_toArray, List.set_cons_succ, List.set_cons_zero, List.getD_cons_succ, List.getD_cons_zero]
      refine x_run rfl fun K hK w1 _ => ?_
      go_simp
      refine hK _ ?_
      clear hK K
      refine x_nil ?_
      have he' := (he.trans (Ext.drew wr)).trans hwf
      clear hwf hp' hq' he h1 h2 h3 h4 hcn
      go_wp2
      go_roundw
      case rel => exact ⟨i + 1, by omega, by go_num, he'⟩
      case measure => simp [intOf]; omega
    · obtain rfl : i = n := by omega
      go_wp2
      go_ret
      exact ⟨rfl, he⟩

/-- The numbers k, k + 1, .. as floats. -/
def marksF (k : Int) (n : Nat) : List Nat := (List.range n).map fun (i : Nat) => FloatKind.f32.nearest (k + i)
theorem length_marksF (k : Int) (n : Nat) : (marksF k n).length = n := by simp [marksF]
theorem marksF_getD (k : Int) (n i : Nat) (h : i < n) : (marksF k n).getD i 0 = FloatKind.f32.nearest (k + i) := by simp [marksF, h]
def markVs (k : Int) (n : Nat) : List Value := (List.range n).map fun (i : Nat) => Value.float .f32 (FloatKind.f32.nearest (k + i))
theorem markVs_flts (k : Int) (n : Nat) : F32s (markVs k n) (marksF k n) :=
  ⟨by simp [markVs, marksF], fun i hi => by
    rw [length_marksF] at hi
    exact ⟨FloatKind.f32.nearest (k + i), by simp [markVs, hi], by rw [marksF_getD k n i hi, cn_nearest]⟩⟩

set_option maxRecDepth 100000 in
set_option maxHeartbeats 1000000 in
theorem markFloat32S_own (p : Option Addr) (n c : Nat) (k : Int) (vs : List Value) (w : World) (hv : vs.length = n) (hn : n ≤ 1073741824) (hk0 : 0 ≤ k) (hk : k ≤ 4611686018427387904) (hown : OwnRow w p n c vs) :
    Calls Try.prog 40 #[.slice p n c, .int .i64 k] w fun e w' => e = .returned (.int .i64 (k + n)) ∧ OwnRow w' p n c (markVs k n) ∧ Chg (fun b => b ∈ blocksOf p) w w' := by
  have Hv := hid hv
  clear hv
  go_enter Try.func40, Try.ntmps40
  go_wp2
  go_loopw [1, 5] (fun kv iv wr => ∃ (i : Nat) (us : List Value), i ≤ n ∧ iv = .int .i64 i ∧ kv = .int .i64 (k + i) ∧ Hid (us.length = n) ∧ Hid (∀ j, j < i → us[j]? = (markVs k n)[j]?) ∧ OwnRow wr p n c us ∧ Chg (fun b => b ∈ blocksOf p) w wr) (fun _ iv _ => n - (intOf iv).toNat)
  case atStart => exact ⟨0, vs, by omega, rfl, by go_num, Hv.out, fun j hj => by omega, hown, Chg.refl _ _⟩
  case round =>
    clear hown
    obtain ⟨i, us, hi, rfl, rfl, Hu, Hall, hown, hch⟩ := hrel
    by_cases hlt : i < n
    · go_wp2_with (refine wl_stRow (u := .float .f32 (FloatKind.f32.nearest (k + i))) rfl rfl rfl rfl (fun _ => rfl) rfl rfl (fun _ => rfl) rfl hown Hu.out (by omega) (by omega) ?_; intro w1 own1 g1)
      go_roundw
      case rel =>
        refine ⟨i + 1, _, by omega, by go_num, by go_num, by rw [Hid, List.length_set]; exact Hu.out, fun j hj => ?_, own1, hch.trans g1⟩
        rw [Int.toNat_natCast, List.getElem?_set]
        by_cases hji : i = j
        · subst hji; rw [if_pos rfl, if_pos (by rw [Hu.out]; exact hlt)]; simp [markVs, hlt]
        · rw [if_neg hji]; exact Hall j (by omega)
      case measure => simp [intOf]; omega
    · obtain rfl : i = n := by omega
      go_wp2
      go_ret
      have : us = markVs k i := by
        apply List.ext_getElem?
        intro j
        by_cases hj : j < i
        · exact Hall j hj
        · rw [List.getElem?_eq_none (by rw [Hu.out]; omega), List.getElem?_eq_none (by simp [markVs]; omega)]
      subst this
      exact ⟨rfl, hown, hch⟩

set_option maxRecDepth 100000 in
set_option maxHeartbeats 1000000 in
theorem heldFloat32S_any (p : Option Addr) (n c : Nat) (k : Int) (vs : List Value) (w : World) (hn : n ≤ 1073741824) (hk0 : 0 ≤ k) (hk : k ≤ 4611686018427387904) (hp : Cs w p vs) (hf : F32s vs (marksF k n)) :
    Calls Try.prog 41 #[.slice p n c, .int .i64 k] w fun e w' => e = .returned (.int .i64 (k + n)) ∧ Ext w w' := by
  have Hl := hid (length_marksF k n)
  go_enter Try.func41, Try.ntmps41
  go_wp2
  go_loopw [1, 5] (fun kv iv wr => ∃ i : Nat, i ≤ n ∧ iv = .int .i64 i ∧ kv = .int .i64 (k + i) ∧ Ext w wr) (fun _ iv _ => n - (intOf iv).toNat)
  case atStart => exact ⟨0, by omega, rfl, by go_num, Ext.refl w⟩
  case round =>
    obtain ⟨i, hi, rfl, rfl, he⟩ := hrel
    by_cases hlt : i < n
    · have hp' := hp.ext he
      obtain ⟨b, hb, hcb⟩ := hf.get (i := i) (by rw [Hl.out]; exact hlt)
      rw [marksF_getD k n i hlt] at hcb
      have hbe : b = FloatKind.f32.nearest (k + i) := eq_of_cn (hcb.trans (cn_nearest .f32 _).symm) (by rw [isNaN_of_cn (hcb.trans (cn_nearest .f32 _).symm)]; exact nearest_not .f32 _)
      have ho : (FloatKind.f32.format.order b (floatOfInt .f32 (k + i)) != some .eq) = false := by rw [hbe]; show (FloatKind.f32.format.order (FloatKind.f32.nearest (k + i)) (FloatKind.f32.nearest (k + i)) != some .eq) = false; rw [order_self (nearest_not .f32 _)]; rfl
      have Hb := hid hb
      have Hv := hid (hf.1.trans Hl.out)
      clear hbe hcb hb
      go_wp2_with (refine wl_idxload rfl rfl rfl rfl (fun _ => rfl) rfl rfl hp' Hv.out (by omega) (by omega) ?_; intro u hu; rw [Int.toNat_natCast, Hb.out] at hu; cases hu)
      go_roundw
      case rel => exact ⟨i + 1, by omega, by go_num, by go_num, he⟩
      case measure => simp [intOf]; omega
    · obtain rfl : i = n := by omega
      go_wp2
      go_ret
      exact ⟨rfl, he⟩

/-- What is left of a budget. -/
def Left (left tot : Int) (e : Ending) : Prop := ∃ r : Int, e = .returned (.int .i64 r) ∧ (r < 0 ∨ (r = left - tot ∧ 0 ≤ r))
set_option maxRecDepth 100000 in
set_option maxHeartbeats 1000000 in
theorem szFloat32S_any (p : Option Addr) (n c : Nat) (left : Int) (w : World) (hn : n ≤ maxLen) (h0 : 0 ≤ left) (h1 : left ≤ 1048576) :
    Calls Try.prog 105 #[.slice p n c, .int .i64 left] w fun e w' => Left left n e ∧ Ext w w' := by
  unfold maxLen at hn
  by_cases h : left < n
  · go_enter Try.func105, Try.ntmps105
    go_wp2
    go_ret
    exact ⟨⟨-1, rfl, .inl (by omega)⟩, Ext.refl _⟩
  · go_enter Try.func105, Try.ntmps105
    go_wp2
    go_ret
    exact ⟨⟨_, rfl, .inr ⟨rfl, by omega⟩⟩, Ext.refl _⟩
end Go.Proofs.Ytnlhahlegedlaaa
