/- The law FnStopped answers true at every input: the walk. -/
import Derived.Test.YtlimabbeaimdgaaStp
import Derived.Test.YtlimabbeaimdgaaStopLaw
namespace Go.Proofs.Ytlimabbeaimdgaa.lStopped
set_option linter.unusedSimpArgs false
set_option linter.unusedVariables false
open Go.RowKit

theorem retL_take {w w' : World} {N : Nat} {e : Ending} (h : GotL N w e w') : ∃ (xs : List Nat) (q : Option Addr) (c : Nat) (vs : List Value), e = .returned (.slice q N c) ∧ xs.length = N ∧ Cs w' q vs ∧ F32s vs xs ∧ N ≤ c ∧ c ≤ maxLen ∧ Ext w w' := by
  obtain ⟨xs, hx, _, q, c, vs, he, ho, hf, hE⟩ := h
  rw [hx] at he ho
  exact ⟨xs, q, c, vs, he, hx, own_Cs ho, hf, (own_cap ho).1, (own_cap ho).2, hE⟩
theorem some_best (xs : List Nat) (n : Nat) : (bestR xs n).2 = anyTo (fun j => isN (xs.getD j 0)) n := by
  unfold bestR
  rcases bestTo_inv xs n with ⟨h1, h2⟩ | ⟨b, h1, h2, h3, _⟩
  · rw [h1, if_pos (by decide), anyTo_false h2]
  · rw [h1, if_neg (by omega), anyTo_true.2 ⟨b, h2, h3⟩]
theorem neB_cn {r x : Nat} (h : cn .f32 r = x) (hN : isN x = true) : (FloatKind.f32.format.order r r != some .eq) = false := by
  have := eqB_cn h
  rw [hN] at this
  rw [bne, this]; rfl
set_option maxRecDepth 100000 in
set_option maxHeartbeats 4000000 in
theorem law_any (p0 q0 : Option Addr) (n0 c0 m0 d0 : Nat) (bs ms : List Nat) (w : World) (hc0 : Cs w p0 (u8s bs)) (hl0 : bs.length = n0) (hb0 : ∀ b ∈ bs, b < 256) (hd0 : Cs w q0 (u8s ms)) (hm0 : ms.length = m0) (hb1 : ∀ b ∈ ms, b < 256) :
    Calls Try.prog 4 #[.slice p0 n0 c0, .slice q0 m0 d0] w fun e w' => e = .returned (.bool true) ∧ Ext w w' := by
  go_enter Try.func4, Try.ntmps4
  go_wp2_with fail
  refine (b10Long_any _ _ _ _ _ _ _).mono ?_
  rintro e w1 ⟨rfl, rfl⟩
  by_cases hlong : 1048576 < n0 ∨ 1048576 < m0
  · have hd : (decide (1048576 < n0) || decide (1048576 < m0)) = true := by simpa using hlong
    rw [hd]
    go_wp2
    go_ret
    exact ⟨rfl, Ext.refl _⟩
  have hn0 : n0 ≤ 1048576 := by omega
  have hmm0 : m0 ≤ 1048576 := by omega
  have hd : (decide (1048576 < n0) || decide (1048576 < m0)) = false := by simp; omega
  rw [hd]
  clear hd hlong
  go_wp2_with fail
  refine (b10At_any p0 n0 c0 bs 0 12 _ hc0 hl0 hn0 hb0 (by omega) (by omega)).mono ?_
  rintro e w1 ⟨x, rfl, hx, rfl⟩
  have hx := hx (by omega)
  obtain ⟨n, hN⟩ : ∃ N : Nat, (1 : Int) + (x : Int) = (N : Int) := ⟨1 + x, by omega⟩
  have hn1 : 1 ≤ n := by omega
  have hn12 : n ≤ 12 := by omega
  clear hx
  go_wp2_with fail
  refine (B10Whole_any p0 n0 c0 bs n 4 _ hc0 hl0 hn0 hb0 (by omega) (by omega)).mono ?_
  rintro e w1 ⟨zs, hz, _, hR⟩
  have hG : GotL n w e w1 := ⟨_, by rw [List.length_map, hz], fun x hx => by obtain ⟨z, _, rfl⟩ := List.mem_map.1 hx; exact nearest_lt z, hR⟩
  clear hR hz hN
  obtain ⟨xs, q, c, vs, rfl, hx, hc, hv, hnc, hcm, e1⟩ := retL_take hG
  clear hG
  go_wp2_with fail
  refine (b10At_any q0 m0 d0 ms 0 3 _ (hd0.ext e1) hm0 hmm0 hb1 (by omega) (by omega)).mono ?_
  rintro e w2 ⟨y, rfl, _, rfl⟩
  by_cases hy : y = 0
  case pos =>
    subst hy
    clear hc hv hx hnc hcm
    go_wp2_with fail
    refine (B10Numbers_any p0 n0 c0 bs n _ (hc0.ext e1) hl0 hn0 hb0 (by omega)).mono ?_
    rintro e w2 hG
    obtain ⟨ys, q2, c2, us, rfl, hx, hc, hv, hnc, hcm, e2⟩ := retL_take hG
    clear hG
    have e1 := e1.trans e2
    go_wp2_with fail
    refine (b10At_any q0 m0 d0 ms 1 4 _ (hd0.ext e1) hm0 hmm0 hb1 (by omega) (by omega)).mono ?_
    rintro e w3 ⟨z, rfl, hz, rfl⟩
    have hz := hz (by omega)
    obtain ⟨pt, hpt⟩ : ∃ N : Nat, (1 : Int) + (z : Int) = (N : Int) := ⟨1 + z, by omega⟩
    have hp1 : 1 ≤ pt := by omega
    have hp4 : pt ≤ 4 := by omega
    clear hz
    go_wp2_with fail
    refine (BestStep_any q2 n c2 us ys _ hx (by omega) hc hv).mono ?_
    rintro e w3 ⟨rfl, e3⟩
    obtain ⟨fs, hfs⟩ : ∃ fs : Nat → Bool, fs = (fun j => isN (ys.getD j 0)) := ⟨_, rfl⟩
    have hsb := some_best ys n
    rw [← hfs] at hsb
    have hfs2 := hid (congrFun hfs)
    clear hfs
    have HX := hid hx
    have hBI := hid (bestTo_inv ys n)
    have HB := hid (show bestR ys n = if bestTo ys n < 0 then (0, false) else (bestTo ys n, true) from rfl)
    generalize bestR ys n = R at *
    go_wp2_with fail
    refine (lStop.StopAt_any q2 n c2 pt us ys _ hx hnc hcm (hc.ext e3) hv).mono ?_
    rintro e w4 ⟨rfl, e4⟩
    have hS : stopR ys pt = stopGo ys pt (n - pt) pt := by
      unfold stopR
      rw [if_pos ⟨by omega, inB_true.2 (by omega)⟩, hx]; rfl
    generalize stopR ys pt = S at *
    have HS := hid hS
    have hc := (hc.ext e3).ext e4
    have e1 := (e1.trans e3).trans e4
    clear hS e3 e4 hnc hcm hx hpt
    obtain ⟨R1, R2⟩ := R
    obtain ⟨S1, S2⟩ := S
    dsimp only at hsb
    have Hsb := hid hsb
    clear hsb
    go_wp2
    go_loopw [12, 13] (fun sv iv wr => ∃ i : Nat, i ≤ n ∧ iv = .int .i64 i ∧ sv = .bool (anyTo fs i) ∧ Ext w4 wr) (fun _ iv _ => n - (intOf iv).toNat)
    case atStart => exact ⟨0, by omega, rfl, rfl, Ext.refl _⟩
    case round =>
      obtain ⟨i, hi, rfl, rfl, he⟩ := hrel
      by_cases hlt : i < n
      · have hsucc : anyTo fs (i + 1) = (anyTo fs i || isN (ys.getD i 0)) := by rw [← hfs2.out]; rfl
        obtain ⟨r1, hr1, g1⟩ := hv.get (i := i) (by rw [HX.out]; exact hlt)
        have hq := eqB_cn g1
        have R1 := hid hr1
        have HL := hid (hv.1.trans HX.out)
        have k1 := (hc.ext he).ext (Ext.drew wr)
        clear hr1 g1
        cases hA : anyTo fs i
        · rw [hA, Bool.false_or] at hsucc
          have Hsucc := hid hsucc
          clear hsucc hA
          go_wp2_with fail
          refine wp_region_xall (F := fun _ _ _ => False) (by kernel_rfl) (by kernel_rfl) (by kernel_rfl) ?_
          intro wf hwf
          repeat (first
            | (refine x_skip rfl ?_; simp only [Act.put, ev_tmp, List.setIfInBounds_toArray, List.set_cons_succ, List.set_cons_zero, List.getD_cons_succ, List.getD_cons_zero])
            | (refine x_mv rfl rfl rfl ?_; simp only [Act.put, ev_tmp, List.setIfInBounds_toArray, List.set_cons_succ, List.set_cons_zero, List.getD_cons_succ, List.getD_cons_zero])
            | (refine x_as rfl rfl rfl ?_; simp only [Act.put, ev_tmp, List.setIfInBounds_toArray, List.set_cons_succ, List.set_cons_zero, List.getD_cons_succ, List.getD_cons_zero])
            | ((with_reducible show wpX _ _ _ _ _ _ (Oper.mk _ (Op.indexAddr _ _ _) _ _ _ _ :: Oper.mk _ (Op.load _ _) _ _ _ _ :: _) _); refine x_idxload rfl rfl (fun _ => rfl) rfl (fun _ => rfl) rfl rfl k1 HL.out (by omega) (by omega) ?_; intro u hu; rw [Int.toNat_natCast, R1.out] at hu; cases hu; simp only [Act.put, ev_tmp, List.setIfInBounds_toArray, List.set_cons_succ, List.set_cons_zero, List.getD_cons_succ, List.getD_cons_zero])
            | (refine x_run rfl fun K hK w1 hw1 => ?_; go_simp; refine hK _ ?_; clear hK K  hw1 w1))
          refine x_nil ?_
          have hW := (he.trans (Ext.drew wr)).trans hwf
          go_wp2
          go_roundw
          case rel => exact ⟨i + 1, by omega, by go_num, by rw [Hsucc.out]; try rfl, hW⟩
          case measure => simp [intOf]; omega
        · rw [hA, Bool.true_or] at hsucc
          have Hsucc := hid hsucc
          clear hsucc hA
          go_wp2_with fail
          refine wp_region_xall (F := fun _ _ _ => False) (by kernel_rfl) (by kernel_rfl) (by kernel_rfl) ?_
          intro wf hwf
          repeat (first
            | (refine x_skip rfl ?_; simp only [Act.put, ev_tmp, List.setIfInBounds_toArray, List.set_cons_succ, List.set_cons_zero, List.getD_cons_succ, List.getD_cons_zero])
            | (refine x_mv rfl rfl rfl ?_; simp only [Act.put, ev_tmp, List.setIfInBounds_toArray, List.set_cons_succ, List.set_cons_zero, List.getD_cons_succ, List.getD_cons_zero])
            | (refine x_as rfl rfl rfl ?_; simp only [Act.put, ev_tmp, List.setIfInBounds_toArray, List.set_cons_succ, List.set_cons_zero, List.getD_cons_succ, List.getD_cons_zero])
            | (refine x_run rfl fun K hK w1 hw1 => ?_; go_simp; refine hK _ ?_; clear hK K  hw1 w1))
          refine x_nil ?_
          have hW := (he.trans (Ext.drew wr)).trans hwf
          go_wp2
          go_roundw
          case rel => exact ⟨i + 1, by omega, by go_num, by rw [Hsucc.out]; try rfl, hW⟩
          case measure => simp [intOf]; omega
      · obtain rfl : n = i := by omega
        rw [← Hsb.out]
        clear Hsb
        have hne : (R2 != R2) = false := by simp
        have HR2 : R2 = true → ∃ k : Nat, R1 = k ∧ k < n ∧ isN (ys.getD k 0) = true ∧ (∀ j, j < n → flt .f32 (ys.getD j 0) (ys.getD k 0) = false) ∧ ∀ j, j < k → feq .f32 (ys.getD j 0) (ys.getD k 0) = false := by
          intro h
          have HB := HB.out
          rcases hBI.out with ⟨h1, h2⟩ | ⟨b, h1, h2⟩
          · rw [h1, if_pos (by decide)] at HB
            have h3 := (Prod.ext_iff.1 HB).2
            dsimp only at h3; rw [h3] at h; cases h
          · rw [h1, if_neg (by omega)] at HB
            exact ⟨b, (Prod.ext_iff.1 HB).1, h2⟩
        clear HB hBI
        go_wp2
        go_loopw [14] (fun iv wr2 => ∃ j : Nat, iv = .int .i64 j ∧ Ext w4 wr2) (fun iv _ => n - (intOf iv).toNat)
        case atStart => exact ⟨0, rfl, he⟩
        case round =>
          clear he
          obtain ⟨j, rfl, he⟩ := hrel
          by_cases hgo : j < n ∧ R2 = true
          · obtain ⟨hj, rfl⟩ := hgo
            obtain ⟨k, rfl, hk, hkN, hmin, hfst⟩ := HR2 rfl
            obtain ⟨rk, hrk, gk⟩ := hv.get (i := k) (by rw [HX.out]; exact hk)
            obtain ⟨rj, hrj, gj⟩ := hv.get (i := j) (by rw [HX.out]; exact hj)
            have f1 := neB_cn gk hkN
            have f1b : FloatKind.f32.format.order rk rk = some .eq := by have := eqB_cn gk; rw [hkN] at this; simpa using this
            have f2 : (FloatKind.f32.format.order rj rk == some .lt) = false := by rw [ltB_cn gj gk]; exact hmin j hj
            have RK := hid hrk
            have RJ := hid hrj
            have HL := hid (hv.1.trans HX.out)
            have k1 := (hc.ext he).ext (Ext.drew wr)
            have hk0 : decide ((k : Int) < 0) = false := by simp
            have hk1 : decide ((n : Int) ≤ (k : Int)) = false := by simp; omega
            have hk2 : decide ((k : Int) < (n : Int)) = true := by simp; omega
            have hk3 : decide ((k : Int) ≥ (n : Int)) = false := by simp; omega
            have hk4 : decide (n ≤ k) = false := by simp; omega
            have hk5 : ¬ n ≤ k := by omega
            by_cases hjk : j < k
            · have f3 : (FloatKind.f32.format.order rj rk == some .eq) = false := by rw [eqB2_cn gj gk]; exact hfst j hjk
              clear hrk hrj gk gj hkN hmin hfst
              go_wp2_with fail
              refine wp_region_xall (F := fun _ _ _ => False) (by kernel_rfl) (by kernel_rfl) (by kernel_rfl) ?_
              intro wf hwf
              repeat (first
                | (refine x_skip rfl ?_; simp only [Act.put, ev_tmp, List.setIfInBounds_toArray, List.set_cons_succ, List.set_cons_zero, List.getD_cons_succ, List.getD_cons_zero])
                | (refine x_mv rfl rfl rfl ?_; simp only [Act.put, ev_tmp, List.setIfInBounds_toArray, List.set_cons_succ, List.set_cons_zero, List.getD_cons_succ, List.getD_cons_zero])
                | (refine x_as rfl rfl rfl ?_; simp only [Act.put, ev_tmp, List.setIfInBounds_toArray, List.set_cons_succ, List.set_cons_zero, List.getD_cons_succ, List.getD_cons_zero])
                | ((with_reducible show wpX _ _ _ _ _ _ (Oper.mk _ (Op.indexAddr _ _ _) _ _ _ _ :: Oper.mk _ (Op.load _ _) _ _ _ _ :: _) _); refine x_idxload rfl rfl (fun _ => rfl) rfl (fun _ => rfl) rfl rfl k1 HL.out (by omega) (by omega) ?_; intro u hu; rw [Int.toNat_natCast] at hu; first | (rw [RK.out] at hu; cases hu) | (rw [RJ.out] at hu; cases hu); simp only [Act.put, ev_tmp, List.setIfInBounds_toArray, List.set_cons_succ, List.set_cons_zero, List.getD_cons_succ, List.getD_cons_zero])
                | (refine x_run rfl fun K hK w1 hw1 => ?_; go_simp; refine hK _ ?_; clear hK K  hw1 w1))
              refine x_nil ?_
              have hW := (he.trans (Ext.drew wr)).trans hwf
              go_wp2
              go_roundw
              case rel => exact ⟨j + 1, by go_num, hW⟩
              case measure => simp [intOf]; omega
            · have f3 : decide ((j : Int) < (k : Int)) = false := by simp; omega
              clear hrk hrj gk gj hkN hmin hfst
              go_wp2_with fail
              refine wp_region_xall (F := fun _ _ _ => False) (by kernel_rfl) (by kernel_rfl) (by kernel_rfl) ?_
              intro wf hwf
              repeat (first
                | (refine x_skip rfl ?_; simp only [Act.put, ev_tmp, List.setIfInBounds_toArray, List.set_cons_succ, List.set_cons_zero, List.getD_cons_succ, List.getD_cons_zero])
                | (refine x_mv rfl rfl rfl ?_; simp only [Act.put, ev_tmp, List.setIfInBounds_toArray, List.set_cons_succ, List.set_cons_zero, List.getD_cons_succ, List.getD_cons_zero])
                | (refine x_as rfl rfl rfl ?_; simp only [Act.put, ev_tmp, List.setIfInBounds_toArray, List.set_cons_succ, List.set_cons_zero, List.getD_cons_succ, List.getD_cons_zero])
                | ((with_reducible show wpX _ _ _ _ _ _ (Oper.mk _ (Op.indexAddr _ _ _) _ _ _ _ :: Oper.mk _ (Op.load _ _) _ _ _ _ :: _) _); refine x_idxload rfl rfl (fun _ => rfl) rfl (fun _ => rfl) rfl rfl k1 HL.out (by omega) (by omega) ?_; intro u hu; rw [Int.toNat_natCast] at hu; first | (rw [RK.out] at hu; cases hu) | (rw [RJ.out] at hu; cases hu); simp only [Act.put, ev_tmp, List.setIfInBounds_toArray, List.set_cons_succ, List.set_cons_zero, List.getD_cons_succ, List.getD_cons_zero])
                | (refine x_run rfl fun K hK w1 hw1 => ?_; go_simp; refine hK _ ?_; clear hK K  hw1 w1))
              refine x_nil ?_
              have hW := (he.trans (Ext.drew wr)).trans hwf
              go_wp2
              go_roundw
              case rel => exact ⟨j + 1, by go_num, hW⟩
              case measure => simp [intOf]; omega
          · have hout : ¬ j < n ∨ (j < n ∧ R2 = false) := by
              by_cases h : j < n
              · right
                refine ⟨h, ?_⟩
                cases R2
                · rfl
                · exact absurd ⟨h, rfl⟩ hgo
              · left; exact h
            clear hgo HR2
            rcases hout with hout | ⟨hout, rfl⟩
            all_goals
              go_wp2
              go_loopw [15] (fun iv wr3 => ∃ i : Nat, pt ≤ i ∧ i ≤ n + pt ∧ iv = .int .i64 i ∧ Hid (stopGo ys pt (n - pt) pt = stopGo ys pt (n - i) i) ∧ Ext w4 wr3) (fun iv _ => n - (intOf iv).toNat)
              case atStart => exact ⟨pt, by omega, by omega, rfl, rfl, he⟩
              case round =>
                clear he
                obtain ⟨i, hi, hin, rfl, Hst, he⟩ := hrel
                by_cases hlt : i < n
                · have hpp : (i : Int) - (pt : Int) + 1 = ((i + 1 - pt : Nat) : Int) := by omega
                  generalize hF : i + 1 - pt = F at *
                  have hFi : F + pt = i + 1 := by omega
                  go_wp2
                  go_loopw [16, 17] (fun fv kv wr4 => ∃ m : Nat, m ≤ pt ∧ kv = .int .i64 ((F : Int) + (m : Int)) ∧ fv = .bool (anyTo (fun m => allLess ys F (ys.getD (F + m) 0)) m) ∧ Ext w4 wr4) (fun _ kv _ => i + 1 - (intOf kv).toNat)
                  case atStart => exact ⟨0, by omega, by simp, rfl, he⟩
                  case round =>
                    clear he
                    obtain ⟨m, hm, rfl, rfl, he⟩ := hrel
                    by_cases hlt2 : m < pt
                    · have hkn : F + m < n := by omega
                      have hki : (F : Int) + (m : Int) ≤ (i : Int) := by omega
                      have Hany := hid (show anyTo (fun m => allLess ys F (ys.getD (F + m) 0)) (m + 1) = (anyTo (fun m => allLess ys F (ys.getD (F + m) 0)) m || allLess ys F (ys.getD (F + m) 0)) from rfl)
                      generalize hx0 : ys.getD (F + m) 0 = x0 at *
                      have Hx0 := hid hx0
                      clear hx0
                      generalize anyTo (fun m => allLess ys F (ys.getD (F + m) 0)) m = fr at *
                      go_wp2
                      go_loopw [18, 19] (fun lv jv wr5 => ∃ j : Nat, j ≤ F ∧ jv = .int .i64 (j : Int) ∧ lv = .bool (allLess ys j x0) ∧ Ext w4 wr5) (fun _ jv _ => F - (intOf jv).toNat)
                      case atStart => exact ⟨0, by omega, by simp, rfl, he⟩
                      case round =>
                        clear he
                        obtain ⟨j, hj, rfl, rfl, he⟩ := hrel
                        by_cases hlt3 : j < F
                        · have hsucc := hid (allLess_succ ys j x0)
                          have hc' := (hc.ext he).ext (Ext.drew wr)
                          have hji : (j : Int) ≤ (i : Int) - (pt : Int) := by omega
                          cases hless : allLess ys j x0 with
                          | true =>
                            have Hl := hid hless
                            clear hless
                            go_wp2_with fail
                            refine wp_region_xall (F := fun _ _ _ => False) (by kernel_rfl) (by kernel_rfl) (by kernel_rfl) ?_
                            intro wf hwf
                            repeat (first
                              | (refine x_skip rfl ?_; simp only [Act.put, ev_tmp, List.setIfInBounds_toArray, List.set_cons_succ, List.set_cons_zero, List.getD_cons_succ, List.getD_cons_zero])
                              | (refine x_mv rfl rfl rfl ?_; simp only [Act.put, ev_tmp, List.setIfInBounds_toArray, List.set_cons_succ, List.set_cons_zero, List.getD_cons_succ, List.getD_cons_zero])
                              | (refine x_as rfl rfl rfl ?_; simp only [Act.put, ev_tmp, List.setIfInBounds_toArray, List.set_cons_succ, List.set_cons_zero, List.getD_cons_succ, List.getD_cons_zero])
                              | ((with_reducible show wpX _ _ _ _ _ _ (Oper.mk _ (Op.indexAddr _ _ _) _ _ _ _ :: Oper.mk _ (Op.load _ _) _ _ _ _ :: _) _); refine x_ldF rfl rfl (fun _ => rfl) rfl (fun _ => rfl) rfl rfl hc' hv HX.out (by omega) (by omega) ?_; first | (have zz := G1; intro r2 g2; have G2 := hid g2; clear g2 zz) | (intro r1 g1; have G1 := hid g1; clear g1); simp only [Act.put, ev_tmp, List.setIfInBounds_toArray, List.set_cons_succ, List.set_cons_zero, List.getD_cons_succ, List.getD_cons_zero])
                              | (refine x_run rfl fun K hK w1 hw1 => ?_; go_simp; refine hK _ ?_; clear hK K  hw1 w1))
                            refine x_nil ?_
                            have h1 := G1.out
                            have h2 := G2.out
                            rw [show ((F : Int) + (m : Int)).toNat = F + m by omega, Hx0.out] at h1
                            rw [Int.toNat_natCast] at h2
                            rw [lt32_cn h1 h2]
                            have he' := (he.trans (Ext.drew wr)).trans hwf
                            clear hwf hc' he h1 h2
                            go_wp2
                            go_roundw
                            case rel => exact ⟨j + 1, by omega, by go_num, by rw [hsucc.out, Hl.out]; rfl, he'⟩
                            case measure => simp [intOf]; omega
                          | false =>
                            have Hl := hid hless
                            clear hless
                            go_wp2_with fail
                            refine wp_region_xall (F := fun _ _ _ => False) (by kernel_rfl) (by kernel_rfl) (by kernel_rfl) ?_
                            intro wf hwf
                            repeat (first
                              | (refine x_skip rfl ?_; simp only [Act.put, ev_tmp, List.setIfInBounds_toArray, List.set_cons_succ, List.set_cons_zero, List.getD_cons_succ, List.getD_cons_zero])
                              | (refine x_mv rfl rfl rfl ?_; simp only [Act.put, ev_tmp, List.setIfInBounds_toArray, List.set_cons_succ, List.set_cons_zero, List.getD_cons_succ, List.getD_cons_zero])
                              | (refine x_as rfl rfl rfl ?_; simp only [Act.put, ev_tmp, List.setIfInBounds_toArray, List.set_cons_succ, List.set_cons_zero, List.getD_cons_succ, List.getD_cons_zero])
                              | (refine x_run rfl fun K hK w1 hw1 => ?_; go_simp; refine hK _ ?_; clear hK K  hw1 w1))
                            refine x_nil ?_
                            have he' := (he.trans (Ext.drew wr)).trans hwf
                            clear hwf hc' he
                            go_wp2
                            go_roundw
                            case rel => exact ⟨j + 1, by omega, by go_num, by rw [hsucc.out, Hl.out]; rfl, he'⟩
                            case measure => simp [intOf]; omega
                        · obtain rfl : j = F := by omega
                          cases fr with
                          | true =>
                            go_wp2
                            go_roundw
                            case rel => exact ⟨m + 1, by omega, by go_num, by rw [Hany.out]; rfl, he⟩
                            case measure => simp [intOf]; omega
                          | false =>
                            go_wp2
                            go_roundw
                            case rel => exact ⟨m + 1, by omega, by go_num, by rw [Hany.out]; rfl, he⟩
                            case measure => simp [intOf]; omega
                    · obtain rfl : m = pt := by omega
                      have hfr : fresh ys m i = anyTo (fun m => allLess ys F (ys.getD (F + m) 0)) m := by unfold fresh; rw [hF]
                      rw [← hfr]
                      have hn1 : n - i = (n - (i + 1)) + 1 := by omega
                      have hstep : stopGo ys m (n - i) i = if fresh ys m i = true then stopGo ys m (n - (i + 1)) (i + 1) else ((i : Int), true) := by rw [hn1]; rfl
                      have Hstep := hid hstep
                      clear hstep hfr
                      cases hf : fresh ys m i with
                      | true =>
                        have Hf := hid hf
                        clear hf
                        go_wp2
                        go_roundw
                        case rel => exact ⟨i + 1, by omega, by omega, by go_num, by rw [Hid, Hst.out, Hstep.out, Hf.out]; rfl, he⟩
                        case measure => simp [intOf]; omega
                      | false =>
                        have HE : (S1, S2) = ((i : Int), true) := by rw [HS.out, Hst.out, Hstep.out, hf]; rfl
                        obtain ⟨rfl, rfl⟩ := Prod.mk.inj HE
                        clear hf
                        go_wp2
                        go_ret
                        exact ⟨by first | rfl | simp, e1.trans he⟩
                · have HE : (S1, S2) = ((0 : Int), false) := by rw [HS.out, Hst.out, show n - i = 0 by omega]; rfl
                  obtain ⟨rfl, rfl⟩ := Prod.mk.inj HE
                  go_wp2
                  go_ret
                  exact ⟨by first | rfl | simp, e1.trans he⟩
  case neg =>
    have hy0 : ((y : Int) = 0) = False := by simp; omega
    go_wp2_with fail
    refine (b10At_any q0 m0 d0 ms 1 4 _ (hd0.ext e1) hm0 hmm0 hb1 (by omega) (by omega)).mono ?_
    rintro e w3 ⟨z, rfl, hz, rfl⟩
    have hz := hz (by omega)
    obtain ⟨pt, hpt⟩ : ∃ N : Nat, (1 : Int) + (z : Int) = (N : Int) := ⟨1 + z, by omega⟩
    have hp1 : 1 ≤ pt := by omega
    have hp4 : pt ≤ 4 := by omega
    clear hz
    go_wp2_with fail
    refine (BestStep_any q n c vs xs _ hx (by omega) hc hv).mono ?_
    rintro e w3 ⟨rfl, e3⟩
    obtain ⟨fs, hfs⟩ : ∃ fs : Nat → Bool, fs = (fun j => isN (xs.getD j 0)) := ⟨_, rfl⟩
    have hsb := some_best xs n
    rw [← hfs] at hsb
    have hfs2 := hid (congrFun hfs)
    clear hfs
    have HX := hid hx
    have hBI := hid (bestTo_inv xs n)
    have HB := hid (show bestR xs n = if bestTo xs n < 0 then (0, false) else (bestTo xs n, true) from rfl)
    generalize bestR xs n = R at *
    go_wp2_with fail
    refine (lStop.StopAt_any q n c pt vs xs _ hx hnc hcm (hc.ext e3) hv).mono ?_
    rintro e w4 ⟨rfl, e4⟩
    have hS : stopR xs pt = stopGo xs pt (n - pt) pt := by
      unfold stopR
      rw [if_pos ⟨by omega, inB_true.2 (by omega)⟩, hx]; rfl
    generalize stopR xs pt = S at *
    have HS := hid hS
    have hc := (hc.ext e3).ext e4
    have e1 := (e1.trans e3).trans e4
    clear hS e3 e4 hnc hcm hx hpt
    obtain ⟨R1, R2⟩ := R
    obtain ⟨S1, S2⟩ := S
    dsimp only at hsb
    have Hsb := hid hsb
    clear hsb
    go_wp2
    go_loopw [12, 13] (fun sv iv wr => ∃ i : Nat, i ≤ n ∧ iv = .int .i64 i ∧ sv = .bool (anyTo fs i) ∧ Ext w4 wr) (fun _ iv _ => n - (intOf iv).toNat)
    case atStart => exact ⟨0, by omega, rfl, rfl, Ext.refl _⟩
    case round =>
      obtain ⟨i, hi, rfl, rfl, he⟩ := hrel
      by_cases hlt : i < n
      · have hsucc : anyTo fs (i + 1) = (anyTo fs i || isN (xs.getD i 0)) := by rw [← hfs2.out]; rfl
        obtain ⟨r1, hr1, g1⟩ := hv.get (i := i) (by rw [HX.out]; exact hlt)
        have hq := eqB_cn g1
        have R1 := hid hr1
        have HL := hid (hv.1.trans HX.out)
        have k1 := (hc.ext he).ext (Ext.drew wr)
        clear hr1 g1
        cases hA : anyTo fs i
        · rw [hA, Bool.false_or] at hsucc
          have Hsucc := hid hsucc
          clear hsucc hA
          go_wp2_with fail
          refine wp_region_xall (F := fun _ _ _ => False) (by kernel_rfl) (by kernel_rfl) (by kernel_rfl) ?_
          intro wf hwf
          repeat (first
            | (refine x_skip rfl ?_; simp only [Act.put, ev_tmp, List.setIfInBounds_toArray, List.set_cons_succ, List.set_cons_zero, List.getD_cons_succ, List.getD_cons_zero])
            | (refine x_mv rfl rfl rfl ?_; simp only [Act.put, ev_tmp, List.setIfInBounds_toArray, List.set_cons_succ, List.set_cons_zero, List.getD_cons_succ, List.getD_cons_zero])
            | (refine x_as rfl rfl rfl ?_; simp only [Act.put, ev_tmp, List.setIfInBounds_toArray, List.set_cons_succ, List.set_cons_zero, List.getD_cons_succ, List.getD_cons_zero])
            | ((with_reducible show wpX _ _ _ _ _ _ (Oper.mk _ (Op.indexAddr _ _ _) _ _ _ _ :: Oper.mk _ (Op.load _ _) _ _ _ _ :: _) _); refine x_idxload rfl rfl (fun _ => rfl) rfl (fun _ => rfl) rfl rfl k1 HL.out (by omega) (by omega) ?_; intro u hu; rw [Int.toNat_natCast, R1.out] at hu; cases hu; simp only [Act.put, ev_tmp, List.setIfInBounds_toArray, List.set_cons_succ, List.set_cons_zero, List.getD_cons_succ, List.getD_cons_zero])
            | (refine x_run rfl fun K hK w1 hw1 => ?_; go_simp; refine hK _ ?_; clear hK K  hw1 w1))
          refine x_nil ?_
          have hW := (he.trans (Ext.drew wr)).trans hwf
          go_wp2
          go_roundw
          case rel => exact ⟨i + 1, by omega, by go_num, by rw [Hsucc.out]; try rfl, hW⟩
          case measure => simp [intOf]; omega
        · rw [hA, Bool.true_or] at hsucc
          have Hsucc := hid hsucc
          clear hsucc hA
          go_wp2_with fail
          refine wp_region_xall (F := fun _ _ _ => False) (by kernel_rfl) (by kernel_rfl) (by kernel_rfl) ?_
          intro wf hwf
          repeat (first
            | (refine x_skip rfl ?_; simp only [Act.put, ev_tmp, List.setIfInBounds_toArray, List.set_cons_succ, List.set_cons_zero, List.getD_cons_succ, List.getD_cons_zero])
            | (refine x_mv rfl rfl rfl ?_; simp only [Act.put, ev_tmp, List.setIfInBounds_toArray, List.set_cons_succ, List.set_cons_zero, List.getD_cons_succ, List.getD_cons_zero])
            | (refine x_as rfl rfl rfl ?_; simp only [Act.put, ev_tmp, List.setIfInBounds_toArray, List.set_cons_succ, List.set_cons_zero, List.getD_cons_succ, List.getD_cons_zero])
            | (refine x_run rfl fun K hK w1 hw1 => ?_; go_simp; refine hK _ ?_; clear hK K  hw1 w1))
          refine x_nil ?_
          have hW := (he.trans (Ext.drew wr)).trans hwf
          go_wp2
          go_roundw
          case rel => exact ⟨i + 1, by omega, by go_num, by rw [Hsucc.out]; try rfl, hW⟩
          case measure => simp [intOf]; omega
      · obtain rfl : n = i := by omega
        rw [← Hsb.out]
        clear Hsb
        have hne : (R2 != R2) = false := by simp
        have HR2 : R2 = true → ∃ k : Nat, R1 = k ∧ k < n ∧ isN (xs.getD k 0) = true ∧ (∀ j, j < n → flt .f32 (xs.getD j 0) (xs.getD k 0) = false) ∧ ∀ j, j < k → feq .f32 (xs.getD j 0) (xs.getD k 0) = false := by
          intro h
          have HB := HB.out
          rcases hBI.out with ⟨h1, h2⟩ | ⟨b, h1, h2⟩
          · rw [h1, if_pos (by decide)] at HB
            have h3 := (Prod.ext_iff.1 HB).2
            dsimp only at h3; rw [h3] at h; cases h
          · rw [h1, if_neg (by omega)] at HB
            exact ⟨b, (Prod.ext_iff.1 HB).1, h2⟩
        clear HB hBI
        go_wp2
        go_loopw [14] (fun iv wr2 => ∃ j : Nat, iv = .int .i64 j ∧ Ext w4 wr2) (fun iv _ => n - (intOf iv).toNat)
        case atStart => exact ⟨0, rfl, he⟩
        case round =>
          clear he
          obtain ⟨j, rfl, he⟩ := hrel
          by_cases hgo : j < n ∧ R2 = true
          · obtain ⟨hj, rfl⟩ := hgo
            obtain ⟨k, rfl, hk, hkN, hmin, hfst⟩ := HR2 rfl
            obtain ⟨rk, hrk, gk⟩ := hv.get (i := k) (by rw [HX.out]; exact hk)
            obtain ⟨rj, hrj, gj⟩ := hv.get (i := j) (by rw [HX.out]; exact hj)
            have f1 := neB_cn gk hkN
            have f1b : FloatKind.f32.format.order rk rk = some .eq := by have := eqB_cn gk; rw [hkN] at this; simpa using this
            have f2 : (FloatKind.f32.format.order rj rk == some .lt) = false := by rw [ltB_cn gj gk]; exact hmin j hj
            have RK := hid hrk
            have RJ := hid hrj
            have HL := hid (hv.1.trans HX.out)
            have k1 := (hc.ext he).ext (Ext.drew wr)
            have hk0 : decide ((k : Int) < 0) = false := by simp
            have hk1 : decide ((n : Int) ≤ (k : Int)) = false := by simp; omega
            have hk2 : decide ((k : Int) < (n : Int)) = true := by simp; omega
            have hk3 : decide ((k : Int) ≥ (n : Int)) = false := by simp; omega
            have hk4 : decide (n ≤ k) = false := by simp; omega
            have hk5 : ¬ n ≤ k := by omega
            by_cases hjk : j < k
            · have f3 : (FloatKind.f32.format.order rj rk == some .eq) = false := by rw [eqB2_cn gj gk]; exact hfst j hjk
              clear hrk hrj gk gj hkN hmin hfst
              go_wp2_with fail
              refine wp_region_xall (F := fun _ _ _ => False) (by kernel_rfl) (by kernel_rfl) (by kernel_rfl) ?_
              intro wf hwf
              repeat (first
                | (refine x_skip rfl ?_; simp only [Act.put, ev_tmp, List.setIfInBounds_toArray, List.set_cons_succ, List.set_cons_zero, List.getD_cons_succ, List.getD_cons_zero])
                | (refine x_mv rfl rfl rfl ?_; simp only [Act.put, ev_tmp, List.setIfInBounds_toArray, List.set_cons_succ, List.set_cons_zero, List.getD_cons_succ, List.getD_cons_zero])
                | (refine x_as rfl rfl rfl ?_; simp only [Act.put, ev_tmp, List.setIfInBounds_toArray, List.set_cons_succ, List.set_cons_zero, List.getD_cons_succ, List.getD_cons_zero])
                | ((with_reducible show wpX _ _ _ _ _ _ (Oper.mk _ (Op.indexAddr _ _ _) _ _ _ _ :: Oper.mk _ (Op.load _ _) _ _ _ _ :: _) _); refine x_idxload rfl rfl (fun _ => rfl) rfl (fun _ => rfl) rfl rfl k1 HL.out (by omega) (by omega) ?_; intro u hu; rw [Int.toNat_natCast] at hu; first | (rw [RK.out] at hu; cases hu) | (rw [RJ.out] at hu; cases hu); simp only [Act.put, ev_tmp, List.setIfInBounds_toArray, List.set_cons_succ, List.set_cons_zero, List.getD_cons_succ, List.getD_cons_zero])
                | (refine x_run rfl fun K hK w1 hw1 => ?_; go_simp; refine hK _ ?_; clear hK K  hw1 w1))
              refine x_nil ?_
              have hW := (he.trans (Ext.drew wr)).trans hwf
              go_wp2
              go_roundw
              case rel => exact ⟨j + 1, by go_num, hW⟩
              case measure => simp [intOf]; omega
            · have f3 : decide ((j : Int) < (k : Int)) = false := by simp; omega
              clear hrk hrj gk gj hkN hmin hfst
              go_wp2_with fail
              refine wp_region_xall (F := fun _ _ _ => False) (by kernel_rfl) (by kernel_rfl) (by kernel_rfl) ?_
              intro wf hwf
              repeat (first
                | (refine x_skip rfl ?_; simp only [Act.put, ev_tmp, List.setIfInBounds_toArray, List.set_cons_succ, List.set_cons_zero, List.getD_cons_succ, List.getD_cons_zero])
                | (refine x_mv rfl rfl rfl ?_; simp only [Act.put, ev_tmp, List.setIfInBounds_toArray, List.set_cons_succ, List.set_cons_zero, List.getD_cons_succ, List.getD_cons_zero])
                | (refine x_as rfl rfl rfl ?_; simp only [Act.put, ev_tmp, List.setIfInBounds_toArray, List.set_cons_succ, List.set_cons_zero, List.getD_cons_succ, List.getD_cons_zero])
                | ((with_reducible show wpX _ _ _ _ _ _ (Oper.mk _ (Op.indexAddr _ _ _) _ _ _ _ :: Oper.mk _ (Op.load _ _) _ _ _ _ :: _) _); refine x_idxload rfl rfl (fun _ => rfl) rfl (fun _ => rfl) rfl rfl k1 HL.out (by omega) (by omega) ?_; intro u hu; rw [Int.toNat_natCast] at hu; first | (rw [RK.out] at hu; cases hu) | (rw [RJ.out] at hu; cases hu); simp only [Act.put, ev_tmp, List.setIfInBounds_toArray, List.set_cons_succ, List.set_cons_zero, List.getD_cons_succ, List.getD_cons_zero])
                | (refine x_run rfl fun K hK w1 hw1 => ?_; go_simp; refine hK _ ?_; clear hK K  hw1 w1))
              refine x_nil ?_
              have hW := (he.trans (Ext.drew wr)).trans hwf
              go_wp2
              go_roundw
              case rel => exact ⟨j + 1, by go_num, hW⟩
              case measure => simp [intOf]; omega
          · have hout : ¬ j < n ∨ (j < n ∧ R2 = false) := by
              by_cases h : j < n
              · right
                refine ⟨h, ?_⟩
                cases R2
                · rfl
                · exact absurd ⟨h, rfl⟩ hgo
              · left; exact h
            clear hgo HR2
            rcases hout with hout | ⟨hout, rfl⟩
            all_goals
              go_wp2
              go_loopw [15] (fun iv wr3 => ∃ i : Nat, pt ≤ i ∧ i ≤ n + pt ∧ iv = .int .i64 i ∧ Hid (stopGo xs pt (n - pt) pt = stopGo xs pt (n - i) i) ∧ Ext w4 wr3) (fun iv _ => n - (intOf iv).toNat)
              case atStart => exact ⟨pt, by omega, by omega, rfl, rfl, he⟩
              case round =>
                clear he
                obtain ⟨i, hi, hin, rfl, Hst, he⟩ := hrel
                by_cases hlt : i < n
                · have hpp : (i : Int) - (pt : Int) + 1 = ((i + 1 - pt : Nat) : Int) := by omega
                  generalize hF : i + 1 - pt = F at *
                  have hFi : F + pt = i + 1 := by omega
                  go_wp2
                  go_loopw [16, 17] (fun fv kv wr4 => ∃ m : Nat, m ≤ pt ∧ kv = .int .i64 ((F : Int) + (m : Int)) ∧ fv = .bool (anyTo (fun m => allLess xs F (xs.getD (F + m) 0)) m) ∧ Ext w4 wr4) (fun _ kv _ => i + 1 - (intOf kv).toNat)
                  case atStart => exact ⟨0, by omega, by simp, rfl, he⟩
                  case round =>
                    clear he
                    obtain ⟨m, hm, rfl, rfl, he⟩ := hrel
                    by_cases hlt2 : m < pt
                    · have hkn : F + m < n := by omega
                      have hki : (F : Int) + (m : Int) ≤ (i : Int) := by omega
                      have Hany := hid (show anyTo (fun m => allLess xs F (xs.getD (F + m) 0)) (m + 1) = (anyTo (fun m => allLess xs F (xs.getD (F + m) 0)) m || allLess xs F (xs.getD (F + m) 0)) from rfl)
                      generalize hx0 : xs.getD (F + m) 0 = x0 at *
                      have Hx0 := hid hx0
                      clear hx0
                      generalize anyTo (fun m => allLess xs F (xs.getD (F + m) 0)) m = fr at *
                      go_wp2
                      go_loopw [18, 19] (fun lv jv wr5 => ∃ j : Nat, j ≤ F ∧ jv = .int .i64 (j : Int) ∧ lv = .bool (allLess xs j x0) ∧ Ext w4 wr5) (fun _ jv _ => F - (intOf jv).toNat)
                      case atStart => exact ⟨0, by omega, by simp, rfl, he⟩
                      case round =>
                        clear he
                        obtain ⟨j, hj, rfl, rfl, he⟩ := hrel
                        by_cases hlt3 : j < F
                        · have hsucc := hid (allLess_succ xs j x0)
                          have hc' := (hc.ext he).ext (Ext.drew wr)
                          have hji : (j : Int) ≤ (i : Int) - (pt : Int) := by omega
                          cases hless : allLess xs j x0 with
                          | true =>
                            have Hl := hid hless
                            clear hless
                            go_wp2_with fail
                            refine wp_region_xall (F := fun _ _ _ => False) (by kernel_rfl) (by kernel_rfl) (by kernel_rfl) ?_
                            intro wf hwf
                            repeat (first
                              | (refine x_skip rfl ?_; simp only [Act.put, ev_tmp, List.setIfInBounds_toArray, List.set_cons_succ, List.set_cons_zero, List.getD_cons_succ, List.getD_cons_zero])
                              | (refine x_mv rfl rfl rfl ?_; simp only [Act.put, ev_tmp, List.setIfInBounds_toArray, List.set_cons_succ, List.set_cons_zero, List.getD_cons_succ, List.getD_cons_zero])
                              | (refine x_as rfl rfl rfl ?_; simp only [Act.put, ev_tmp, List.setIfInBounds_toArray, List.set_cons_succ, List.set_cons_zero, List.getD_cons_succ, List.getD_cons_zero])
                              | ((with_reducible show wpX _ _ _ _ _ _ (Oper.mk _ (Op.indexAddr _ _ _) _ _ _ _ :: Oper.mk _ (Op.load _ _) _ _ _ _ :: _) _); refine x_ldF rfl rfl (fun _ => rfl) rfl (fun _ => rfl) rfl rfl hc' hv HX.out (by omega) (by omega) ?_; first | (have zz := G1; intro r2 g2; have G2 := hid g2; clear g2 zz) | (intro r1 g1; have G1 := hid g1; clear g1); simp only [Act.put, ev_tmp, List.setIfInBounds_toArray, List.set_cons_succ, List.set_cons_zero, List.getD_cons_succ, List.getD_cons_zero])
                              | (refine x_run rfl fun K hK w1 hw1 => ?_; go_simp; refine hK _ ?_; clear hK K  hw1 w1))
                            refine x_nil ?_
                            have h1 := G1.out
                            have h2 := G2.out
                            rw [show ((F : Int) + (m : Int)).toNat = F + m by omega, Hx0.out] at h1
                            rw [Int.toNat_natCast] at h2
                            rw [lt32_cn h1 h2]
                            have he' := (he.trans (Ext.drew wr)).trans hwf
                            clear hwf hc' he h1 h2
                            go_wp2
                            go_roundw
                            case rel => exact ⟨j + 1, by omega, by go_num, by rw [hsucc.out, Hl.out]; rfl, he'⟩
                            case measure => simp [intOf]; omega
                          | false =>
                            have Hl := hid hless
                            clear hless
                            go_wp2_with fail
                            refine wp_region_xall (F := fun _ _ _ => False) (by kernel_rfl) (by kernel_rfl) (by kernel_rfl) ?_
                            intro wf hwf
                            repeat (first
                              | (refine x_skip rfl ?_; simp only [Act.put, ev_tmp, List.setIfInBounds_toArray, List.set_cons_succ, List.set_cons_zero, List.getD_cons_succ, List.getD_cons_zero])
                              | (refine x_mv rfl rfl rfl ?_; simp only [Act.put, ev_tmp, List.setIfInBounds_toArray, List.set_cons_succ, List.set_cons_zero, List.getD_cons_succ, List.getD_cons_zero])
                              | (refine x_as rfl rfl rfl ?_; simp only [Act.put, ev_tmp, List.setIfInBounds_toArray, List.set_cons_succ, List.set_cons_zero, List.getD_cons_succ, List.getD_cons_zero])
                              | (refine x_run rfl fun K hK w1 hw1 => ?_; go_simp; refine hK _ ?_; clear hK K  hw1 w1))
                            refine x_nil ?_
                            have he' := (he.trans (Ext.drew wr)).trans hwf
                            clear hwf hc' he
                            go_wp2
                            go_roundw
                            case rel => exact ⟨j + 1, by omega, by go_num, by rw [hsucc.out, Hl.out]; rfl, he'⟩
                            case measure => simp [intOf]; omega
                        · obtain rfl : j = F := by omega
                          cases fr with
                          | true =>
                            go_wp2
                            go_roundw
                            case rel => exact ⟨m + 1, by omega, by go_num, by rw [Hany.out]; rfl, he⟩
                            case measure => simp [intOf]; omega
                          | false =>
                            go_wp2
                            go_roundw
                            case rel => exact ⟨m + 1, by omega, by go_num, by rw [Hany.out]; rfl, he⟩
                            case measure => simp [intOf]; omega
                    · obtain rfl : m = pt := by omega
                      have hfr : fresh xs m i = anyTo (fun m => allLess xs F (xs.getD (F + m) 0)) m := by unfold fresh; rw [hF]
                      rw [← hfr]
                      have hn1 : n - i = (n - (i + 1)) + 1 := by omega
                      have hstep : stopGo xs m (n - i) i = if fresh xs m i = true then stopGo xs m (n - (i + 1)) (i + 1) else ((i : Int), true) := by rw [hn1]; rfl
                      have Hstep := hid hstep
                      clear hstep hfr
                      cases hf : fresh xs m i with
                      | true =>
                        have Hf := hid hf
                        clear hf
                        go_wp2
                        go_roundw
                        case rel => exact ⟨i + 1, by omega, by omega, by go_num, by rw [Hid, Hst.out, Hstep.out, Hf.out]; rfl, he⟩
                        case measure => simp [intOf]; omega
                      | false =>
                        have HE : (S1, S2) = ((i : Int), true) := by rw [HS.out, Hst.out, Hstep.out, hf]; rfl
                        obtain ⟨rfl, rfl⟩ := Prod.mk.inj HE
                        clear hf
                        go_wp2
                        go_ret
                        exact ⟨by first | rfl | simp, e1.trans he⟩
                · have HE : (S1, S2) = ((0 : Int), false) := by rw [HS.out, Hst.out, show n - i = 0 by omega]; rfl
                  obtain ⟨rfl, rfl⟩ := Prod.mk.inj HE
                  go_wp2
                  go_ret
                  exact ⟨by first | rfl | simp, e1.trans he⟩
end Go.Proofs.Ytlimabbeaimdgaa.lStopped
