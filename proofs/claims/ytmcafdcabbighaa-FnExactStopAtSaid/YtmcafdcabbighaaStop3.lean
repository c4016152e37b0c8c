/- StopAt: the reference's. -/
import Derived.Test.YtmcafdcabbighaaStop2
namespace Go.Proofs.Ytmcafdcabbighaa
set_option linter.unusedSimpArgs false
set_option linter.unusedVariables false
open Go.RowKit

theorem allLess_zero (xs : List Nat) (x : Nat) : allLess xs 0 x = true := rfl
theorem allLess_succ (xs : List Nat) (f x : Nat) : allLess xs (f + 1) x = (allLess xs f x && lt32 x (xs.getD f 0)) := by
  unfold allLess; rw [anyTo]; simp

set_option maxRecDepth 100000 in
set_option maxHeartbeats 1000000 in
theorem l01Few_any (p : Option Addr) (n c : Nat) (w : World) (hn : n ≤ maxLen) : Calls Try.prog 67 #[.slice p n c] w fun e w' => e = .returned (.bool (decide (n ≤ 256))) ∧ w = w' := by
  unfold maxLen at hn
  go_enter Try.func67, Try.ntmps67
  go_wp2
  go_ret
  refine ⟨ret_bool ?_, rfl⟩
  by_cases h : n ≤ 256
  · simp [h]; omega
  · simp [h]; omega

set_option maxRecDepth 100000 in
set_option maxHeartbeats 1000000 in
theorem specStopAt_yes (p : Option Addr) (n c pt : Nat) (vs : List Value) (xs : List Nat) (w : World) (hx : xs.length = n) (hn : n ≤ 256) (hp1 : 1 ≤ pt) (hp2 : pt ≤ 256) (hc : Cs w p vs) (hv : F32s vs xs) :
    Calls Try.prog 24 #[.slice p n c, .int .i64 pt] w fun e w' => ∃ r : Int × Bool, r = stopGo xs pt (n - pt) pt ∧ e = .returned (.tuple #[.int .i64 r.1, .bool r.2]) ∧ Ext w w' := by
  have Hx := hid hx
  clear hx
  have c1 : inB (pt : Int) 1 256 = true := inB_true.2 (by omega)
  have c2 : decide (n ≤ 256) = true := by simpa using hn
  go_enter Try.func24, Try.ntmps24
  go_wp2_with fail
  refine (l01Few_any _ _ _ _ (by unfold maxLen; omega)).mono ?_
  rintro e w1 ⟨rfl, rfl⟩
  rw [c2]
  go_wp2_with fail
  refine (l00In_any _ _ _ _).mono ?_
  rintro e w1 ⟨rfl, rfl⟩
  rw [c1]
  go_wp2
  go_loopw [6] (fun iv wr => ∃ i : Nat, pt ≤ i ∧ i ≤ n + pt ∧ iv = .int .i64 i ∧ Hid (stopGo xs pt (n - pt) pt = stopGo xs pt (n - i) i) ∧ Ext w wr) (fun iv _ => n - (intOf iv).toNat)
  case atStart => exact ⟨pt, by omega, by omega, rfl, rfl, Ext.refl _⟩
  case round =>
    obtain ⟨i, hi, hin, rfl, Hst, he⟩ := hrel
    by_cases hlt : i < n
    · have hpp : (i : Int) - (pt : Int) + 1 = ((i + 1 - pt : Nat) : Int) := by omega
      generalize hF : i + 1 - pt = F at *
      have hFi : F + pt = i + 1 := by omega
      go_wp2
      go_loopw [7, 8] (fun fv kv wr2 => ∃ m : Nat, m ≤ pt ∧ kv = .int .i64 ((F : Int) + (m : Int)) ∧ fv = .bool (anyTo (fun m => allLess xs F (xs.getD (F + m) 0)) m) ∧ Ext w wr2) (fun _ kv _ => i + 1 - (intOf kv).toNat)
      case atStart => exact ⟨0, by omega, by simp, rfl, he⟩
      case round =>
        clear he
        obtain ⟨m, hm, rfl, rfl, he⟩ := hrel
        by_cases hlt2 : m < pt
        · have hkn : F + m < n := by omega
          have hki : (F : Int) + (m : Int) ≤ (i : Int) := by omega
          have hany : anyTo (fun m => allLess xs F (xs.getD (F + m) 0)) (m + 1) = (anyTo (fun m => allLess xs F (xs.getD (F + m) 0)) m || allLess xs F (xs.getD (F + m) 0)) := rfl
          have Hany := hid hany
          clear hany
          generalize hx0 : xs.getD (F + m) 0 = x0 at *
          have Hx0 := hid hx0
          clear hx0
          generalize anyTo (fun m => allLess xs F (xs.getD (F + m) 0)) m = fr at *
          go_wp2
          go_loopw [9, 10] (fun lv jv wr3 => ∃ j : Nat, j ≤ F ∧ jv = .int .i64 (j : Int) ∧ lv = .bool (allLess xs j x0) ∧ Ext w wr3) (fun _ jv _ => F - (intOf jv).toNat)
          case atStart => exact ⟨0, by omega, by simp, rfl, he⟩
          case round =>
            clear he
            obtain ⟨j, hj, rfl, rfl, he⟩ := hrel
            by_cases hlt3 : j < F
            · have hsucc := hid (allLess_succ xs j x0)
              have hc' := (hc.ext he).ext (Ext.drew wr)
              cases hless : allLess xs j x0 with
              | true =>
                have Hl := hid hless
                clear hless
                go_wp2_with fail
                refine wp_region_xall (F := fun _ _ _ => False) (by kernel_rfl) (by kernel_rfl) (by kernel_rfl) ?_
                intro wf hwf
                refine x_mv rfl rfl rfl ?_
                simp only [Act.put, ev_tmp, List.setIfInBounds_toArray, List.set_cons_succ, List.set_cons_zero, List.getD_cons_succ, List.getD_cons_zero]
                refine x_mv rfl rfl rfl ?_
                simp only [Act.put, ev_tmp, List.setIfInBounds_toArray, List.set_cons_succ, List.set_cons_zero, List.getD_cons_succ, List.getD_cons_zero]
                refine x_mv rfl rfl rfl ?_
                simp only [Act.put, ev_tmp, List.setIfInBounds_toArray, List.set_cons_succ, List.set_cons_zero, List.getD_cons_succ, List.getD_cons_zero]
                refine x_mv rfl rfl rfl ?_
                simp only [Act.put, ev_tmp, List.setIfInBounds_toArray, List.set_cons_succ, List.set_cons_zero, List.getD_cons_succ, List.getD_cons_zero]
                refine x_ldF rfl rfl (fun _ => rfl) rfl (fun _ => rfl) rfl rfl (hc') (hv) (Hx.out) (by omega) (by omega) ?_
                intro r1 h1
                simp only [Act.put, ev_tmp, List.setIfInBounds_toArray, List.set_cons_succ, List.set_cons_zero, List.getD_cons_succ, List.getD_cons_zero]
                refine x_mv rfl rfl rfl ?_
                simp only [Act.put, ev_tmp, List.setIfInBounds_toArray, List.set_cons_succ, List.set_cons_zero, List.getD_cons_succ, List.getD_cons_zero]
                refine x_mv rfl rfl rfl ?_
                simp only [Act.put, ev_tmp, List.setIfInBounds_toArray, List.set_cons_succ, List.set_cons_zero, List.getD_cons_succ, List.getD_cons_zero]
                refine x_ldF rfl rfl (fun _ => rfl) rfl (fun _ => rfl) rfl rfl (hc') (hv) (Hx.out) (by omega) (by omega) ?_
                intro r2 h2
                simp only [Act.put, ev_tmp, List.setIfInBounds_toArray, List.set_cons_succ, List.set_cons_zero, List.getD_cons_succ, List.getD_cons_zero]
                refine x_run rfl fun K hK w1 _ => ?_
                go_simp
                refine hK _ ?_
                clear hK K
                refine x_run rfl fun K hK w1 _ => ?_
                go_simp
                refine hK _ ?_
                clear hK K
                refine x_run rfl fun K hK w1 _ => ?_
                go_simp
                refine hK _ ?_
                clear hK K
                refine x_nil ?_
                rw [show ((F : Int) + (m : Int)).toNat = F + m by omega, Hx0.out] at h1
                rw [Int.toNat_natCast] at h2
                rw [lt32_cn h1 h2]
                have he' := (he.trans (Ext.drew wr)).trans hwf
                clear hwf hc' he h1 h2
                go_wp2
                go_roundw
                case rel => exact ⟨j + 1, by omega, by go_num, by rw [hsucc.out, Hl.out]; rfl, he'⟩
                case measure => simp [intOf]; omega
              | false =>
                have Hl := hid hless
                clear hless
                go_wp2_with fail
                refine wp_region_xall (F := fun _ _ _ => False) (by kernel_rfl) (by kernel_rfl) (by kernel_rfl) ?_
                intro wf hwf
                refine x_mv rfl rfl rfl ?_
                simp only [Act.put, ev_tmp, List.setIfInBounds_toArray, List.set_cons_succ, List.set_cons_zero, List.getD_cons_succ, List.getD_cons_zero]
                refine x_mv rfl rfl rfl ?_
                simp only [Act.put, ev_tmp, List.setIfInBounds_toArray, List.set_cons_succ, List.set_cons_zero, List.getD_cons_succ, List.getD_cons_zero]
                refine x_skip rfl ?_
                simp only [Act.put, ev_tmp, List.setIfInBounds_toArray, List.set_cons_succ, List.set_cons_zero, List.getD_cons_succ, List.getD_cons_zero]
                refine x_skip rfl ?_
                simp only [Act.put, ev_tmp, List.setIfInBounds_toArray, List.set_cons_succ, List.set_cons_zero, List.getD_cons_succ, List.getD_cons_zero]
                refine x_skip rfl ?_
                simp only [Act.put, ev_tmp, List.setIfInBounds_toArray, List.set_cons_succ, List.set_cons_zero, List.getD_cons_succ, List.getD_cons_zero]
                refine x_skip rfl ?_
                simp only [Act.put, ev_tmp, List.setIfInBounds_toArray, List.set_cons_succ, List.set_cons_zero, List.getD_cons_succ, List.getD_cons_zero]
                refine x_skip rfl ?_
                simp only [Act.put, ev_tmp, List.setIfInBounds_toArray, List.set_cons_succ, List.set_cons_zero, List.getD_cons_succ, List.getD_cons_zero]
                refine x_skip rfl ?_
                simp only [Act.put, ev_tmp, List.setIfInBounds_toArray, List.set_cons_succ, List.set_cons_zero, List.getD_cons_succ, List.getD_cons_zero]
                refine x_skip rfl ?_
                simp only [Act.put, ev_tmp, List.setIfInBounds_toArray, List.set_cons_succ, List.set_cons_zero, List.getD_cons_succ, List.getD_cons_zero]
                refine x_skip rfl ?_
                simp only [Act.put, ev_tmp, List.setIfInBounds_toArray, List.set_cons_succ, List.set_cons_zero, List.getD_cons_succ, List.getD_cons_zero]
                refine x_skip rfl ?_
                simp only [Act.put, ev_tmp, List.setIfInBounds_toArray, List.set_cons_succ, List.set_cons_zero, List.getD_cons_succ, List.getD_cons_zero]
                refine x_run rfl fun K hK w1 _ => ?_
                go_simp
                refine hK _ ?_
                clear hK K
                refine x_run rfl fun K hK w1 _ => ?_
                go_simp
                refine hK _ ?_
                clear hK K
                refine x_nil ?_
                have he' := (he.trans (Ext.drew wr)).trans hwf
                clear hwf hc' he
                go_wp2
                go_roundw
                case rel => exact ⟨j + 1, by omega, by go_num, by rw [hsucc.out, Hl.out]; rfl, he'⟩
                case measure => simp [intOf]; omega
            · obtain rfl : j = F := by omega
              cases fr with
              | true =>
                go_wp2
                go_roundw
                case rel => exact ⟨m + 1, by omega, by go_num, by rw [Hany.out]; rfl, he⟩
                case measure => simp [intOf]; omega
              | false =>
                go_wp2
                go_roundw
                case rel => exact ⟨m + 1, by omega, by go_num, by rw [Hany.out]; rfl, he⟩
                case measure => simp [intOf]; omega
        · obtain rfl : m = pt := by omega
          have hfr : fresh xs m i = anyTo (fun m => allLess xs F (xs.getD (F + m) 0)) m := by unfold fresh; rw [hF]
          rw [← hfr]
          have hn1 : n - i = (n - (i + 1)) + 1 := by omega
          have hstep : stopGo xs m (n - i) i = if fresh xs m i = true then stopGo xs m (n - (i + 1)) (i + 1) else ((i : Int), true) := by rw [hn1]; rfl
          have Hstep := hid hstep
          clear hstep hfr
          cases hf : fresh xs m i with
          | true =>
            have Hf := hid hf
            clear hf
            go_wp2
            go_roundw
            case rel => exact ⟨i + 1, by omega, by omega, by go_num, by rw [Hid, Hst.out, Hstep.out, Hf.out]; rfl, he⟩
            case measure => simp [intOf]; omega
          | false =>
            have Hf := hid hf
            clear hf
            go_wp2
            go_ret2
            exact ⟨((i : Int), true), by rw [Hst.out, Hstep.out, Hf.out]; rfl, rfl, he⟩
    · go_wp2
      go_ret2
      refine ⟨(0, false), ?_, rfl, he⟩
      rw [Hst.out, show n - i = 0 by omega]; rfl
end Go.Proofs.Ytmcafdcabbighaa
