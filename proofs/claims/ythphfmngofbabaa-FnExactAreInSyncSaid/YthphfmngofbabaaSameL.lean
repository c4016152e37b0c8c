/- Lists of numbers that are the same: spec.l01SameAll, slices.EqualFunc, impl.sameLists. -/
import Derived.Test.YthphfmngofbabaaSame
import Derived.Test.YthphfmngofbabaaMem2
import Derived.Test.YthphfmngofbabaaTen
import Derived.Test.YthphfmngofbabaaCont
namespace Go.Proofs.Ythphfmngofbabaa
set_option linter.unusedSimpArgs false
set_option linter.unusedVariables false
open Go.RowKit

theorem eq_of_getD {xs ys : List Nat} (hl : xs.length = ys.length) (h : ∀ j, j < xs.length → xs.getD j 0 = ys.getD j 0) : xs = ys := by
  refine List.ext_getElem hl fun i h1 h2 => ?_
  have := h i h1
  simpa [h1, h2] using this
theorem getD_lt {xs : List Nat} {B : Nat} (hB : 0 < B) (h : ∀ x ∈ xs, x < B) (j : Nat) : xs.getD j 0 < B := by
  by_cases hj : j < xs.length
  · have : xs.getD j 0 = xs[j] := by simp [hj]
    rw [this]; exact h _ (by simp)
  · have : xs.getD j 0 = 0 := by simp; rw [List.getElem?_eq_none (by omega)]; rfl
    rw [this]; exact hB
/-- Numbers have 32 bits. -/
def In32 (xs : List Nat) : Prop := ∀ x ∈ xs, x < 4294967296

set_option maxRecDepth 100000 in
set_option maxHeartbeats 1000000 in
theorem l01SameAll_any (p q : Option Addr) (n m c d : Nat) (us vs : List Value) (xs ys : List Nat) (w : World) (hx : xs.length = n) (hy : ys.length = m) (hn : n ≤ maxLen) (hp : Cs w p us) (hq : Cs w q vs) (hu : F32s us xs) (hv : F32s vs ys) (bx : In32 xs) (bY : In32 ys) :
    Calls Try.prog 116 #[.slice p n c, .slice q m d] w fun e w' => e = .returned (.bool (decide (xs = ys))) ∧ Ext w w' := by
  unfold maxLen at hn
  by_cases hnm : n = m
  · subst hnm
    have Hx := hid hx
    have Hy := hid hy
    have Hbx := hid (fun j => getD_lt (by decide) bx j)
    have Hby := hid (fun j => getD_lt (by decide) bY j)
    clear hx hy bx bY
    go_enter Try.func116, Try.ntmps116
    go_wp2
    go_loopw [5] (fun iv wr => ∃ i : Nat, i ≤ n ∧ iv = .int .i64 i ∧ Hid (∀ j, j < i → xs.getD j 0 = ys.getD j 0) ∧ Ext w wr) (fun iv _ => n - (intOf iv).toNat)
    case atStart => exact ⟨0, by omega, rfl, hid (fun j hj => absurd hj (Nat.not_lt_zero j)), Ext.refl w⟩
    case round =>
      obtain ⟨i, hi, rfl, Hall, he⟩ := hrel
      by_cases hlt : i < n
      · have hp' := (hp.ext he).ext (Ext.drew wr)
        have hq' := (hq.ext he).ext (Ext.drew wr)
        obtain ⟨b, hb⟩ : ∃ b, b = decide (xs.getD i 0 = ys.getD i 0) := ⟨_, rfl⟩
        have Hb := hid hb
        clear hb
        go_wp2_with fail
        refine wp_region_xall (F := fun _ _ u => u = .bool b) (by kernel_rfl) (by kernel_rfl) (by kernel_rfl) ?_
        intro wf hwf
        refine x_mv rfl rfl rfl ?_
        simp only [Act.put, ev_tmp, List.setIfInBounds_toArray, List.set_cons_succ, List.set_cons_zero, List.getD_cons_succ, List.getD_cons_zero]
        refine x_mv rfl rfl rfl ?_
        simp only [Act.put, ev_tmp, List.setIfInBounds_toArray, List.set_cons_succ, List.set_cons_zero, List.getD_cons_succ, List.getD_cons_zero]
        refine x_ldF rfl rfl (fun _ => rfl) rfl (fun _ => rfl) rfl rfl (hp') (hu) (Hx.out) (by omega) (by omega) ?_
        intro r1 h1
        simp only [Act.put, ev_tmp, List.setIfInBounds_toArray, List.set_cons_succ, List.set_cons_zero, List.getD_cons_succ, List.getD_cons_zero]
        refine x_mv rfl rfl rfl ?_
        simp only [Act.put, ev_tmp, List.setIfInBounds_toArray, List.set_cons_succ, List.set_cons_zero, List.getD_cons_succ, List.getD_cons_zero]
        refine x_mv rfl rfl rfl ?_
        simp only [Act.put, ev_tmp, List.setIfInBounds_toArray, List.set_cons_succ, List.set_cons_zero, List.getD_cons_succ, List.getD_cons_zero]
        refine x_ldF rfl rfl (fun _ => rfl) rfl (fun _ => rfl) rfl rfl (hq') (hv) (Hy.out) (by omega) (by omega) ?_
        intro r2 h2
        simp only [Act.put, ev_tmp, List.setIfInBounds_toArray, List.set_cons_succ, List.set_cons_zero, List.getD_cons_succ, List.getD_cons_zero]
        have hc1 : cn .f32 r1 < 4294967296 := by rw [h1]; exact Hbx.out i
        have hc2 : cn .f32 r2 < 4294967296 := by rw [h2]; exact Hby.out i
        have hbb : decide (cn .f32 r1 = cn .f32 r2) = b := by rw [h1, h2]; exact Hb.out.symm
        refine x_callf (f := 115) (args := #[.float .f32 r1, .float .f32 r2]) rfl rfl Try.func115 rfl (by kernel_rfl) (by simp [Act.eval]) (fun w1 hw1 => (l01Same_any r1 r2 w1 hc1 hc2).mono fun e w3 h => ⟨_, h.1, h.2 ▸ Ext.refl _, congrArg Value.bool hbb⟩) ?_
        rintro u w3 _ _ rfl
        simp only [Act.put, ev_tmp, List.setIfInBounds_toArray, List.set_cons_succ, List.set_cons_zero, List.getD_cons_succ, List.getD_cons_zero]
        refine x_run rfl fun K hK w1 _ => ?_
        go_simp
        refine hK _ ?_
        clear hK K
        refine x_nil ?_
        have he' := (he.trans (Ext.drew wr)).trans hwf
        clear hwf hp' hq' he h1 h2 hc1 hc2 hbb
        cases b with
        | true =>
          go_wp2
          go_roundw
          case rel =>
            refine ⟨i + 1, by omega, by go_num, hid fun j hj => ?_, he'⟩
            by_cases hji : j = i
            · subst hji; exact of_decide_eq_true Hb.out.symm
            · exact Hall.out j (by omega)
          case measure => simp [intOf]; omega
        | false =>
          go_wp2
          go_ret
          refine ⟨?_, he'⟩
          have : decide (xs = ys) = false := decide_eq_false fun h => of_decide_eq_false Hb.out.symm (by rw [h])
          rw [this]; rfl
      · obtain rfl : i = n := by omega
        go_wp2
        go_ret
        refine ⟨?_, he⟩
        have : xs = ys := eq_of_getD (by rw [Hx.out, Hy.out]) (by rw [Hx.out]; exact Hall.out)
        rw [this]; simp
  · have h : decide (xs = ys) = false := decide_eq_false fun h => hnm (by rw [← hx, ← hy, h])
    rw [h]
    clear h hx hy hu hv bx bY hp hq
    go_enter Try.func116, Try.ntmps116
    go_wp2
    go_ret
    exact ⟨rfl, Ext.refl w⟩
/-- What is asked of the function of two elements. -/
def PredOk2 (fn : Nat) (us vs : List Value) (q : Nat → Bool) (w : World) : Prop :=
  ∀ (i : Nat) (u v : Value) (W : World), us[i]? = some u → vs[i]? = some v → Ext w W → Calls Try.prog fn #[u, v] W fun e w' => e = .returned (.bool (q i)) ∧ Ext W w'
set_option maxRecDepth 100000 in
set_option maxHeartbeats 1000000 in
theorem equalF32_any (fn : Nat) (eg : ∀ args w, (callFunc fn args).run Try.prog w = .ok (.enter fn args) w) (p q : Option Addr) (n m c d : Nat) (us vs : List Value) (f : Nat → Bool) (w : World) (hx : us.length = n) (hy : vs.length = m) (hn : n ≤ maxLen) (hp : Cs w p us) (hq : Cs w q vs) (hf : PredOk2 fn us vs f w) :
    Calls Try.prog 120 #[.slice p n c, .slice q m d, .func (.func fn) #[] #[]] w fun e w' => e = .returned (.bool (decide (n = m) && !anyTo (fun i => !f i) n)) ∧ Ext w w' := by
  unfold maxLen at hn
  by_cases hnm : n = m
  · subst hnm
    have Hx := hid hx
    have Hy := hid hy
    have Hf := hid hf
    clear hx hy hf
    go_enter Try.func120, Try.ntmps120
    go_wp2
    go_loopw [17] (fun iv wr => ∃ i : Nat, i ≤ n ∧ iv = .int .i64 i ∧ Hid (∀ j, j < i → f j = true) ∧ Ext w wr) (fun iv _ => n - (intOf iv).toNat)
    case atStart => exact ⟨0, by omega, rfl, hid (fun j hj => absurd hj (Nat.not_lt_zero j)), Ext.refl w⟩
    case round =>
      obtain ⟨i, hi, rfl, Hall, he⟩ := hrel
      by_cases hlt : i < n
      · have hp' := hp.ext he
        have hq' := hq.ext he
        have E1 : Hid (us[i]? = some (us[i]'(by rw [Hx.out]; exact hlt))) := hid (by simp)
        have E2 : Hid (vs[i]? = some (vs[i]'(by rw [Hy.out]; exact hlt))) := hid (by simp)
        have hcall := Hf.out i _ _ wr E1.out E2.out he
        generalize us[i]'(by rw [Hx.out]; exact hlt) = u1 at *
        generalize vs[i]'(by rw [Hy.out]; exact hlt) = u2 at *
        obtain ⟨b, hb⟩ : ∃ b, f i = b := ⟨_, rfl⟩
        rw [hb] at hcall
        have Hb := hid hb
        clear hb
        cases b with
        | true =>
          go_wp2_with (first | (go_at_fn fn; refine hcall.mono ?_; rintro e w1 ⟨rfl, e1⟩) | (refine wl_idxload rfl rfl rfl rfl (fun _ => rfl) rfl rfl hp' Hx.out (by omega) (by omega) ?_; intro u hu'; rw [Int.toNat_natCast, E1.out] at hu'; cases hu') | (refine wl_idxload rfl rfl rfl rfl (fun _ => rfl) rfl rfl hq' Hy.out (by omega) (by omega) ?_; intro u hu'; rw [Int.toNat_natCast, E2.out] at hu'; cases hu'))
          go_roundw
          case rel =>
            refine ⟨i + 1, by omega, by go_num, hid fun j hj => ?_, he.trans e1⟩
            by_cases hji : j = i
            · subst hji; exact Hb.out
            · exact Hall.out j (by omega)
          case measure => simp [intOf]; omega
        | false =>
          go_wp2_with (first | (go_at_fn fn; refine hcall.mono ?_; rintro e w1 ⟨rfl, e1⟩) | (refine wl_idxload rfl rfl rfl rfl (fun _ => rfl) rfl rfl hp' Hx.out (by omega) (by omega) ?_; intro u hu'; rw [Int.toNat_natCast, E1.out] at hu'; cases hu') | (refine wl_idxload rfl rfl rfl rfl (fun _ => rfl) rfl rfl hq' Hy.out (by omega) (by omega) ?_; intro u hu'; rw [Int.toNat_natCast, E2.out] at hu'; cases hu'))
          go_ret
          refine ⟨?_, he.trans e1⟩
          have : anyTo (fun i => !f i) n = true := anyTo_true.2 ⟨i, hlt, by rw [Hb.out]; rfl⟩
          rw [this]; simp
      · obtain rfl : i = n := by omega
        go_wp2
        go_ret
        refine ⟨?_, he⟩
        have : anyTo (fun i => !f i) i = false := anyTo_false fun j hj => by rw [Hall.out j hj]; rfl
        rw [this]; simp
  · have h : decide (n = m) = false := decide_eq_false hnm
    rw [h, Bool.false_and]
    clear h hx hy hf hp hq eg
    go_enter Try.func120, Try.ntmps120
    go_wp2
    go_ret
    exact ⟨rfl, Ext.refl w⟩
set_option maxRecDepth 100000 in
set_option maxHeartbeats 1000000 in
theorem equalL_any (fn : Nat) (eg : ∀ args w, (callFunc fn args).run Try.prog w = .ok (.enter fn args) w) (p q : Option Addr) (n m c d : Nat) (us vs : List Value) (f : Nat → Bool) (w : World) (hx : us.length = n) (hy : vs.length = m) (hn : n ≤ maxLen) (hp : Cs w p us) (hq : Cs w q vs) (hf : PredOk2 fn us vs f w) :
    Calls Try.prog 65 #[.slice p n c, .slice q m d, .func (.func fn) #[] #[]] w fun e w' => e = .returned (.bool (decide (n = m) && !anyTo (fun i => !f i) n)) ∧ Ext w w' := by
  unfold maxLen at hn
  by_cases hnm : n = m
  · subst hnm
    have Hx := hid hx
    have Hy := hid hy
    have Hf := hid hf
    clear hx hy hf
    go_enter Try.func65, Try.ntmps65
    go_wp2
    go_loopw [17] (fun iv wr => ∃ i : Nat, i ≤ n ∧ iv = .int .i64 i ∧ Hid (∀ j, j < i → f j = true) ∧ Ext w wr) (fun iv _ => n - (intOf iv).toNat)
    case atStart => exact ⟨0, by omega, rfl, hid (fun j hj => absurd hj (Nat.not_lt_zero j)), Ext.refl w⟩
    case round =>
      obtain ⟨i, hi, rfl, Hall, he⟩ := hrel
      by_cases hlt : i < n
      · have hp' := hp.ext he
        have hq' := hq.ext he
        have E1 : Hid (us[i]? = some (us[i]'(by rw [Hx.out]; exact hlt))) := hid (by simp)
        have E2 : Hid (vs[i]? = some (vs[i]'(by rw [Hy.out]; exact hlt))) := hid (by simp)
        have hcall := Hf.out i _ _ wr E1.out E2.out he
        generalize us[i]'(by rw [Hx.out]; exact hlt) = u1 at *
        generalize vs[i]'(by rw [Hy.out]; exact hlt) = u2 at *
        obtain ⟨b, hb⟩ : ∃ b, f i = b := ⟨_, rfl⟩
        rw [hb] at hcall
        have Hb := hid hb
        clear hb
        cases b with
        | true =>
          go_wp2_with (first | (go_at_fn fn; refine hcall.mono ?_; rintro e w1 ⟨rfl, e1⟩) | (refine wl_idxload rfl rfl rfl rfl (fun _ => rfl) rfl rfl hp' Hx.out (by omega) (by omega) ?_; intro u hu'; rw [Int.toNat_natCast, E1.out] at hu'; cases hu') | (refine wl_idxload rfl rfl rfl rfl (fun _ => rfl) rfl rfl hq' Hy.out (by omega) (by omega) ?_; intro u hu'; rw [Int.toNat_natCast, E2.out] at hu'; cases hu'))
          go_roundw
          case rel =>
            refine ⟨i + 1, by omega, by go_num, hid fun j hj => ?_, he.trans e1⟩
            by_cases hji : j = i
            · subst hji; exact Hb.out
            · exact Hall.out j (by omega)
          case measure => simp [intOf]; omega
        | false =>
          go_wp2_with (first | (go_at_fn fn; refine hcall.mono ?_; rintro e w1 ⟨rfl, e1⟩) | (refine wl_idxload rfl rfl rfl rfl (fun _ => rfl) rfl rfl hp' Hx.out (by omega) (by omega) ?_; intro u hu'; rw [Int.toNat_natCast, E1.out] at hu'; cases hu') | (refine wl_idxload rfl rfl rfl rfl (fun _ => rfl) rfl rfl hq' Hy.out (by omega) (by omega) ?_; intro u hu'; rw [Int.toNat_natCast, E2.out] at hu'; cases hu'))
          go_ret
          refine ⟨?_, he.trans e1⟩
          have : anyTo (fun i => !f i) n = true := anyTo_true.2 ⟨i, hlt, by rw [Hb.out]; rfl⟩
          rw [this]; simp
      · obtain rfl : i = n := by omega
        go_wp2
        go_ret
        refine ⟨?_, he⟩
        have : anyTo (fun i => !f i) i = false := anyTo_false fun j hj => by rw [Hall.out j hj]; rfl
        rw [this]; simp
  · have h : decide (n = m) = false := decide_eq_false hnm
    rw [h, Bool.false_and]
    clear h hx hy hf hp hq eg
    go_enter Try.func65, Try.ntmps65
    go_wp2
    go_ret
    exact ⟨rfl, Ext.refl w⟩
set_option maxRecDepth 100000 in
set_option maxHeartbeats 1000000 in
theorem sameLists_any (p q : Option Addr) (n m c d : Nat) (us vs : List Value) (xs ys : List Nat) (w : World) (hx : xs.length = n) (hy : ys.length = m) (hn : n ≤ maxLen) (hp : Cs w p us) (hq : Cs w q vs) (hu : F32s us xs) (hv : F32s vs ys) (bx : In32 xs) (bY : In32 ys) :
    Calls Try.prog 66 #[.slice p n c, .slice q m d] w fun e w' => e = .returned (.bool (decide (xs = ys))) ∧ Ext w w' := by
  have hcall := equalF32_any 67 (by intro args w; kernel_rfl) p q n m c d us vs (fun i => decide (xs.getD i 0 = ys.getD i 0)) w (by rw [hu.1, hx]) (by rw [hv.1, hy]) hn hp hq (by
    intro i u v W h1 h2 _
    have l1 : i < xs.length := by rw [← hu.1]; exact (List.getElem?_eq_some_iff.1 h1).1
    have l2 : i < ys.length := by rw [← hv.1]; exact (List.getElem?_eq_some_iff.1 h2).1
    obtain ⟨r1, e1, c1⟩ := hu.get l1
    obtain ⟨r2, e2, c2⟩ := hv.get l2
    rw [h1] at e1; rw [h2] at e2
    cases e1; cases e2
    refine (SameNumber_any r1 r2 W (by rw [c1]; exact getD_lt (by decide) bx i) (by rw [c2]; exact getD_lt (by decide) bY i)).mono ?_
    rintro e w1 ⟨rfl, rfl⟩
    exact ⟨by rw [c1, c2], Ext.refl _⟩)
  have hb : (decide (n = m) && !anyTo (fun i => !decide (xs.getD i 0 = ys.getD i 0)) n) = decide (xs = ys) := by
    rw [Bool.eq_iff_iff]
    simp only [Bool.and_eq_true, decide_eq_true_eq, Bool.not_eq_true']
    constructor
    · rintro ⟨h1, h2⟩
      refine eq_of_getD (by omega) fun j hj => ?_
      by_cases hc : xs.getD j 0 = ys.getD j 0
      · exact hc
      · rw [Bool.eq_false_iff] at h2
        exact absurd (anyTo_true.2 ⟨j, by omega, by simpa using hc⟩) h2
    · rintro rfl
      exact ⟨by omega, anyTo_false fun j hj => by simp⟩
  rw [hb] at hcall
  clear hb
  generalize decide (xs = ys) = b at *
  clear hx hy hp hq hu hv bx bY
  go_enter Try.func66, Try.ntmps66
  go_wp2_with fail
  refine hcall.mono ?_
  rintro e w1 ⟨rfl, e1⟩
  go_wp2
  go_ret
  exact ⟨rfl, e1⟩
end Go.Proofs.Ythphfmngofbabaa
