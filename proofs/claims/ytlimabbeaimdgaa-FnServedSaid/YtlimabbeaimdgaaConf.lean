/- ConfusionOf, the program's part. -/
import Derived.Test.YtlimabbeaimdgaaConfD
import Derived.Test.YtlimabbeaimdgaaKf
import Derived.Test.YtlimabbeaimdgaaKb
namespace Go.Proofs.Ytlimabbeaimdgaa.lConfusionOf
set_option linter.unusedSimpArgs false
set_option linter.unusedVariables false
open Go.RowKit

def res (d : shModel.T) (x : shTensor.T) (l : List Int) : List (List Int) × Bool := if okL d x l then (tabF (outL d.1).toNat l (bestF d.1 x.2.2.1 x.2.1.toNat (outL d.1).toNat) l.length, true) else ([], false)
theorem res_no {d : shModel.T} {x : shTensor.T} {l : List Int} (h : ¬ okL d x l) : res d x l = ([], false) := by unfold res; rw [if_neg h]
theorem tot_rows {n : Nat} : ∀ {T : List (List Int)}, (∀ x ∈ T, x.length = n) → tot (.sl (.sl .int)) T = T.length + T.length * n
  | [], _ => by simp [tot]
  | x :: T, h => by
    have ih := tot_rows (T := T) (fun y hy => h y (by simp [hy]))
    have hx := h x (by simp)
    have h0 : ∀ (y : List Int), tot (.sl .int) y = y.length := fun y => by
      have : ∀ (z : List Int), (z.map (tot .int)).sum = 0 := by intro z; induction z with | nil => rfl | cons a z ih => rw [List.map_cons, List.sum_cons, ih]; rfl
      rw [tot, this]; rfl
    have h1 : tot (.sl (.sl .int)) (x :: T) = T.length + 1 + (tot (.sl .int) x + (T.map (tot (.sl .int))).sum) := by simp only [tot, List.length_cons, List.map_cons, List.sum_cons]
    have h2 : tot (.sl (.sl .int)) T = T.length + (T.map (tot (.sl .int))).sum := by simp only [tot]
    rw [h1, h0, hx, List.length_cons, Nat.add_mul]
    rw [h2] at ih
    omega
theorem res_bd (d : shModel.T) (x : shTensor.T) (l : List Int) (_ : tot shModel d ≤ 1048576) (_ : tot shTensor x ≤ 1048576) (_ : tot (.sl .int) l ≤ 1048576) (_ : Fit shModel d) (_ : Fit shTensor x) (_ : Fit (.sl .int) l) : tot shInt64SS (res d x l).1 ≤ 1048576 := by
  show tot (.sl (.sl .int)) (res d x l).1 ≤ 1048576
  unfold res
  split
  · rename_i h
    obtain ⟨m, hm, hm1, hm8⟩ := outL_nat (modOk h.1.1)
    dsimp only
    rw [← hm, Int.toNat_natCast]
    obtain ⟨h1, h2⟩ := tabF_len m l (bestF d.1 x.2.2.1 x.2.1.toNat m) l.length
    rw [tot_rows h2, h1]
    have := Nat.mul_le_mul hm8 hm8
    omega
  · simp [tot]
set_option maxRecDepth 100000 in
set_option maxHeartbeats 1000000 in
theorem clos_ok (g : Nat) (O n : Int) (W : World) (hO : 0 ≤ O ∧ O ≤ 8) (h1 : W.cell? ⟨g, 1, none⟩ = some (.int .i64 O)) : Calls Try.prog 96 #[.int .i64 n, .pointer (some ⟨g, 0, none⟩)] W fun e w' => e = .returned (.bool (!inB n 0 (O - 1))) ∧ Ext W w' := by
  have q : IntKind.i64.wrap (O - 1) = O - 1 := wrap_in _ (by omega) (by omega)
  have K := within_any n 0 (O - 1) W
  generalize inB n 0 (O - 1) = b at *
  go_enter Try.func96, Try.ntmps96
  go_wp2_with (go_at_call 81; refine K.mono ?_; rintro e w' ⟨rfl, rfl⟩)
  go_ret
  exact ⟨rfl, Ext.refl _⟩
set_option maxRecDepth 100000 in
set_option maxHeartbeats 4000000 in
theorem impl_ok (cs0 : List Value) (D0 : shModel.T) (cs1 : List Value) (D1 : shTensor.T) (cs2 : List Value) (D2 : List Int) (w : World) (h0 : Rep w shModel cs0 D0) (h1 : Rep w shTensor cs1 D1) (h2 : Rep w (.sl .int) cs2 D2) (f0 : Fit shModel D0) (f1 : Fit shTensor D1) (_ : Fit (.sl .int) D2) : Calls Try.prog 39 #[ofCs shModel cs0, ofCs shTensor cs1, ofCs (.sl .int) cs2] w (OutOk w (.sl (.sl .int)) (res D0 D1 D2)) := by
  have K := hid (fun W (h : Ext w W) => lRunModel.impl_ok cs0 D0 cs1 D1 W (h0.ext h) (h1.ext h) f0 f1)
  obtain ⟨L0, u0⟩ := D0
  obtain ⟨c0, c1, rfl, k0, rfl⟩ := h0
  obtain ⟨p, c, rfl, _⟩ := rep_val k0
  obtain ⟨q, cq, us, rfl, hp, hf, hcq, hcm⟩ := ten_vals h1
  obtain ⟨r, k, xs, _⟩ := D1
  obtain ⟨p3, c3, rfl, hl3, hlc, hlm⟩ := rep_ints.1 h2
  dsimp only at hp hf hcq hcm ⊢
  simp only [ofCs, Sh.agg, if_true, List.append_nil, List.headD_cons, Bool.false_eq_true, if_false] at K ⊢
  obtain ⟨W0, hW0⟩ : ∃ W0, W0 = (w.alloc (.cells #[.slice p L0.length c] 33)).alloc (.cells #[.int .i64 r, .int .i64 k, .slice q xs.length cq] 57) := ⟨_, rfl⟩
  obtain ⟨E0, s0, b0, b1⟩ := box2 hW0
  have t0 : W0.cell? ⟨w.heap.size + 1, 0, none⟩ = some (.int .i64 r) := cell_of_heap b1 rfl
  have t1 : W0.cell? ⟨w.heap.size + 1, 1, none⟩ = some (.int .i64 k) := cell_of_heap b1 rfl
  have t2 : W0.cell? ⟨w.heap.size + 1, 2, none⟩ = some (.slice q xs.length cq) := cell_of_heap b1 rfl
  have a0 : W0.cell? ⟨w.heap.size, 0, none⟩ = some (.slice p L0.length c) := cell_of_heap b0 rfl
  clear b0 b1
  have hlm2 := Nat.le_trans hlc hlm
  unfold maxLen at hlm2
  by_cases hA : ¬ (modB L0 = true ∧ tenB r k xs.length = true ∧ k = inL L0 0)
  · rw [res_no (fun h => hA h.1)]
    have hK : lRunModel.res (L0, u0) (r, k, xs, ()) = ((0, 0, [], ()), false) := by unfold lRunModel.res; rw [if_neg hA]
    rw [hK] at K
    clear k0 h1 hp hf hcq f0 f1
    generalize L0.length = n0 at *
    generalize xs.length = n1 at *
    clear hK hA
    have K1 := hid (fun W (h : Ext w W) => K.out W h)
    clear K
    go_enter Try.func39, Try.ntmps39
    go_wp2_with fail
    rw [← hW0]
    clear hW0
    refine (K1.out _ E0).mono ?_
    rintro e w1 ⟨cs2, bs2, rfl, own2, _, _, _, e1⟩
    have m0 := e1.cell t0; have m1 := e1.cell t1; have m2 := e1.cell t2
    obtain ⟨q2, c2, vs2, rfl, hp2, hf2, hc2, hcm2⟩ := ten_vals own2.rep
    have one2 := own2.rep.one
    clear own2 t0 t1 t2 a0
    dsimp only at hp2 hf2 hc2 hcm2 one2
    have hc2 := hid hc2
    have hcm2 := hid hcm2
    go_wp2_with (first | ((with_reducible show wpList _ _ _ (Oper.mk _ (Op.store _ _ _) _ _ _ _ :: _) _ _); refine wl_stA (s := shTensor) (cs := [.int .i64 0, .int .i64 0, .slice q2 0 c2]) rfl rfl rfl rfl (heap_alloc_new _ _) rfl rfl one2 (by decide) ?_; intro w5 c5 ch5; have E5 : Ext w1 w5 := (Ext.alloc _ _).chg ch5 (fun b hb => by subst hb; exact Nat.le_refl _); clear ch5; have g0 := lCountCorrect.cs_cell c5 0 rfl; have g1 := lCountCorrect.cs_cell c5 1 rfl; have g2 := lCountCorrect.cs_cell c5 2 rfl; replace m0 := E5.cell m0; replace m1 := E5.cell m1; replace m2 := E5.cell m2))
    go_ret2
    exact outOk_no rfl ((E0.trans e1).trans E5)
  have hA2 : modB L0 = true ∧ tenB r k xs.length = true ∧ k = inL L0 0 := Classical.byContradiction hA
  clear hA
  have hK : lRunModel.res (L0, u0) (r, k, xs, ()) = ((r, outL L0, rowsM L0 xs k.toNat r.toNat, ()), true) := by unfold lRunModel.res; rw [if_pos hA2]
  rw [hK] at K
  have hM := modOk hA2.1
  obtain ⟨R, C, e1, e2, hR, hR1, hC, hC1, hn⟩ := tenB_of hA2.2.1
  subst e1 e2
  obtain ⟨O, hO, hO1, hO8⟩ := outL_nat hM
  have hzl := rowsM_len (xs := xs) (c := C) hM hA2.2.2 hO hn R (Nat.le_refl _)
  have hzr := fun i (hi : i < R) => lCountCorrect.rowT_rowsM (xs := xs) (c := C) hM hA2.2.2 hO hn hi
  rw [Int.toNat_natCast, Int.toNat_natCast] at K
  rw [← hO] at K
  by_cases hB : (D2.length : Int) = R
  case neg =>
    rw [res_no (fun h => hB h.2.1)]
    have hT := bne_t hB
    clear hK hA2 hzl hzr hM hO hn hB
    generalize rowsM L0 xs C R = zs at *
    clear k0 h1 hp hf hcq f0 f1
    generalize L0.length = n0 at *
    generalize xs.length = n1 at *
    have K1 := hid (fun W (h : Ext w W) => K.out W h)
    clear K
    go_enter Try.func39, Try.ntmps39
    go_wp2_with fail
    rw [← hW0]
    clear hW0
    refine (K1.out _ E0).mono ?_
    rintro e w1 ⟨cs2, bs2, rfl, own2, _, _, _, e1⟩
    have m0 := e1.cell t0; have m1 := e1.cell t1; have m2 := e1.cell t2
    obtain ⟨q2, c2, vs2, rfl, hp2, hf2, hc2, hcm2⟩ := ten_vals own2.rep
    have one2 := own2.rep.one
    clear own2 t0 t1 t2 a0
    dsimp only at hp2 hf2 hc2 hcm2 one2
    generalize hn3 : zs.length = n3 at *
    have HN3 := hid hn3
    clear hn3
    have hc2 := hid hc2
    have hcm2 := hid hcm2
    go_wp2_with (first | ((with_reducible show wpList _ _ _ (Oper.mk _ (Op.store _ _ _) _ _ _ _ :: _) _ _); refine wl_stA (s := shTensor) (cs := [.int .i64 R, .int .i64 O, .slice q2 n3 c2]) rfl rfl rfl rfl (heap_alloc_new _ _) rfl rfl one2 (by decide) ?_; intro w5 c5 ch5; have E5 : Ext w1 w5 := (Ext.alloc _ _).chg ch5 (fun b hb => by subst hb; exact Nat.le_refl _); clear ch5; have g0 := lCountCorrect.cs_cell c5 0 rfl; have g1 := lCountCorrect.cs_cell c5 1 rfl; have g2 := lCountCorrect.cs_cell c5 2 rfl; replace m0 := E5.cell m0; replace m1 := E5.cell m1; replace m2 := E5.cell m2))
    go_ret2
    exact outOk_no rfl ((E0.trans e1).trans E5)
  have hT := bne_f hB
  have hBn : D2.length = R := by omega
  have HB := hid hBn
  have CF := hid (fun W (h : Ext w W) g (hg : W.cell? ⟨g, 1, none⟩ = some (.int .i64 O)) => containsFuncInt_any 96 #[.pointer (some ⟨g, 0, none⟩)] (by intro args w; kernel_rfl) p3 D2.length c3 _ (fun i => !inB (D2.getD i 0) 0 (O - 1)) W (by simp) (by unfold maxLen; omega) (hl3.ext h) (by
    intro i u W' hu hW
    rw [List.getElem?_map, Option.map_eq_some_iff] at hu
    obtain ⟨y, hy, rfl⟩ := hu
    have : D2.getD i 0 = y := by simp [hy]
    dsimp only
    rw [this]
    exact clos_ok g O y W' (by omega) (hW.cell hg)))
  rw [lblB_any] at CF
  cases hC0 : lblB O D2
  · rw [res_no (fun h => by have := h.2.2; rw [← hO] at this; rw [hC0] at this; cases this)]
    rw [hC0, Bool.not_false] at CF
    clear hK hA2 hzl hzr hM hO hBn HB hn hB hC0
    generalize rowsM L0 xs C R = zs at *
    clear k0 h1 hp hf hcq f0 f1
    generalize L0.length = n0 at *
    generalize xs.length = n1 at *
    have K1 := hid (fun W (h : Ext w W) => K.out W h)
    clear K
    go_enter Try.func39, Try.ntmps39
    go_wp2_with fail
    rw [← hW0]
    clear hW0
    refine (K1.out _ E0).mono ?_
    rintro e w1 ⟨cs2, bs2, rfl, own2, _, _, _, e1⟩
    have m0 := e1.cell t0; have m1 := e1.cell t1; have m2 := e1.cell t2
    obtain ⟨q2, c2, vs2, rfl, hp2, hf2, hc2, hcm2⟩ := ten_vals own2.rep
    have one2 := own2.rep.one
    clear own2 t0 t1 t2 a0
    dsimp only at hp2 hf2 hc2 hcm2 one2
    generalize hn3 : zs.length = n3 at *
    have HN3 := hid hn3
    clear hn3
    have hc2 := hid hc2
    have hcm2 := hid hcm2
    go_wp2_with (first | ((with_reducible show wpList _ _ _ (Oper.mk _ (Op.store _ _ _) _ _ _ _ :: _) _ _); refine wl_stA (s := shTensor) (cs := [.int .i64 R, .int .i64 O, .slice q2 n3 c2]) rfl rfl rfl rfl (heap_alloc_new _ _) rfl rfl one2 (by decide) ?_; intro w5 c5 ch5; have E5 : Ext w1 w5 := (Ext.alloc _ _).chg ch5 (fun b hb => by subst hb; exact Nat.le_refl _); clear ch5; have g0 := lCountCorrect.cs_cell c5 0 rfl; have g1 := lCountCorrect.cs_cell c5 1 rfl; have g2 := lCountCorrect.cs_cell c5 2 rfl; replace m0 := E5.cell m0; replace m1 := E5.cell m1; replace m2 := E5.cell m2))
    refine (CF.out _ ((E0.trans e1).trans E5) _ g1).mono ?_
    rintro e w6 ⟨rfl, e6⟩
    go_wp2
    go_ret2
    exact outOk_no rfl (((E0.trans e1).trans E5).trans e6)
  rw [hC0, Bool.not_true] at CF
  have hok : okL (L0, u0) (R, C, xs, ()) D2 := ⟨hA2, hB, by rw [← hO]; exact hC0⟩
  have hres : res (L0, u0) (R, C, xs, ()) D2 = (tabF O D2 (bestF L0 xs C O) R, true) := by
    unfold res
    rw [if_pos hok]
    dsimp only
    rw [← hO, hBn, Int.toNat_natCast, Int.toNat_natCast]
  rw [hres]
  have hlab := hid (fun i (hi : i < R) => show 0 ≤ D2.getD i 0 ∧ D2.getD i 0 < O from by
    have := lblB_at hC0 (i := i) (by omega)
    rw [List.getD_eq_getElem?_getD, List.getElem?_eq_getElem (by omega), Option.getD_some]; omega)
  have HG := hid (fun i (hi : i < R) => show gi (rowT (rowsM L0 xs C R) O i) O = bestF L0 xs C O i from by unfold bestF; rw [hzr i hi])
  have HL := hid (fun i (hi : i < R) => rowT_len hzl hi)
  have HZ := hid hzl
  have Hlt := hid (fun i => show bestF L0 xs C O i < O from gi_lt _ (by omega))
  have Htl := hid (fun i => tabF_len O D2 (bestF L0 xs C O) i)
  have HN0 := hid hn
  clear hK hA2 hzr hM hO hok hres hB hC0 hn hBn hzl
  generalize bestF L0 xs C O = g at *
  generalize rowsM L0 xs C R = zs at *
  clear k0 h1 hp hf hcq f0 f1
  generalize L0.length = n0 at *
  generalize xs.length = n1 at *
  have K1 := hid (fun W (h : Ext w W) => K.out W h)
  clear K
  go_enter Try.func39, Try.ntmps39
  go_wp2_with fail
  rw [← hW0]
  clear hW0
  refine (K1.out _ E0).mono ?_
  rintro e w1 ⟨cs2, bs2, rfl, own2, _, _, _, e1⟩
  have m0 := e1.cell t0; have m1 := e1.cell t1; have m2 := e1.cell t2
  obtain ⟨q2, c2, vs2, rfl, hp2, hf2, hc2, hcm2⟩ := ten_vals own2.rep
  have one2 := own2.rep.one
  clear own2 t0 t1 t2 a0
  dsimp only at hp2 hf2 hc2 hcm2 one2
  generalize hn3 : zs.length = n3 at *
  have HN3 := hid hn3
  clear hn3
  have hc2 := hid hc2
  have hcm2 := hid hcm2
  go_wp2_with (first | ((with_reducible show wpList _ _ _ (Oper.mk _ (Op.store _ _ _) _ _ _ _ :: _) _ _); refine wl_stA (s := shTensor) (cs := [.int .i64 R, .int .i64 O, .slice q2 n3 c2]) rfl rfl rfl rfl (heap_alloc_new _ _) rfl rfl one2 (by decide) ?_; intro w5 c5 ch5; have E5 : Ext w1 w5 := (Ext.alloc _ _).chg ch5 (fun b hb => by subst hb; exact Nat.le_refl _); clear ch5; have g0 := lCountCorrect.cs_cell c5 0 rfl; have g1 := lCountCorrect.cs_cell c5 1 rfl; have g2 := lCountCorrect.cs_cell c5 2 rfl; replace m0 := E5.cell m0; replace m1 := E5.cell m1; replace m2 := E5.cell m2))
  refine (CF.out _ ((E0.trans e1).trans E5) _ g1).mono ?_
  rintro e w6 ⟨rfl, e6⟩
  have E6 := ((E0.trans e1).trans E5).trans e6
  have j0 := e6.cell g0; have j1 := e6.cell g1; have j2 := e6.cell g2
  have hpz := hp2.ext (E5.trans e6)
  have hl6 := hl3.ext E6
  clear CF g0 g1 g2 m0 m1 m2 K1 hl3
  go_wp2_with ((with_reducible show wpList _ _ _ (Oper.mk _ (Op.makeSlice _ _ _) _ _ _ _ :: _) _ _); refine wl_make w6.heap.size O rfl rfl rfl rfl (by unfold maxLen; omega) (by omega) (Nat.le_refl _) ?_; intro g7 w7 own7 e7)
  have HG := HG
  have hB7 := own_le own7 _ rfl
  rw [made_nils] at own7
  have T7 := tb_made (e := .int) own7 hB7
  have y1 := e7.cell j1
  have hsz7 := e7.size
  clear own7 one2 hp2
  go_wp2
  go_loopw [39] (fun iv wr => ∃ (i : Nat) (css : List (List Value)) (bss : List (List Nat)), i ≤ O ∧ iv = .int .i64 i ∧ Hid (Tb w6.heap.size (.sl .int) wr (some ⟨g7, 0, none⟩) O O (List.replicate i (List.replicate O (0 : Int)) ++ List.replicate (O - i) []) css bss) ∧ Ext w6 wr) (fun iv _ => O - (intOf iv).toNat)
  case atStart => exact ⟨0, _, _, by omega, rfl, T7, e7⟩
  case round =>
    clear T7 y1 hsz7 e7
    obtain ⟨i, css, bss, hi, rfl, HT, he⟩ := hrel
    by_cases hlt : i < O
    · have x1 := he.cell j1
      have hcnt := hid HT.out.cnt
      have hall : ∀ c ∈ css, c.length = 1 := HT.out.all
      go_wp2_with (first | ((with_reducible show wpList _ _ _ (Oper.mk _ (Op.makeSlice _ _ _) _ _ _ _ :: _) _ _); refine wl_make wr.heap.size O rfl rfl rfl rfl (by unfold maxLen; omega) (by omega) (Nat.le_refl _) ?_; intro g9 w9 own9 e9) | ((with_reducible show wpList _ _ _ (Oper.mk _ (Op.indexAddr _ _ _) _ _ _ _ :: Oper.mk _ (Op.store _ _ _) _ _ _ _ :: _) _ _); refine wl_stRow (u := .slice (some ⟨g9, 0, none⟩) O O) rfl rfl rfl rfl (fun _ => rfl) rfl rfl (fun _ => rfl) rfl (HT.out.ext e9).row (by rw [flat_len' hall, hcnt.out, Nat.mul_one]) (by omega) (by omega) ?_; intro w10 r10 ch10))
      go_roundw
      case rel =>
        have hf9 := own_le own9 _ rfl
        rw [made_ints] at own9
        have oi : Own w9 (.sl .int) [.slice (some ⟨g9, 0, none⟩) O O] (List.replicate O (0 : Int)) [g9] := own_intsE.2 ⟨by simp, ownRow_of own9, (own_cap own9).1, (own_cap own9).2, rfl⟩
        rw [Int.toNat_natCast, one_set hall (by rw [hcnt.out]; exact hlt)] at r10
        have T2 := HT.out.put e9 hlt oi (by simp) (fun b hb => by simp at hb; subst hb; exact hf9) he.size r10 ch10
        rw [rep_put O i hlt] at T2
        exact ⟨i + 1, _, _, by omega, by go_num, T2, (he.trans e9).chg ch10 (fun b hb => by simp [blocksOf] at hb; subst hb; omega)⟩
      case measure => simp [intOf]; omega
    · obtain rfl : i = O := by omega
      have HT2 := HT.out
      rw [Nat.sub_self, List.replicate_zero, List.append_nil] at HT2
      replace HT := hid HT2
      clear HT2
      generalize hn2 : D2.length = n2 at *
      have HN2 := hid hn2
      clear hn2
      go_wp2
      go_loopw [51] (fun iv wr => ∃ (r : Nat) (css : List (List Value)) (bss : List (List Nat)), r ≤ n2 ∧ iv = .int .i64 r ∧ Hid (Tb w6.heap.size (.sl .int) wr (some ⟨g7, 0, none⟩) i i (tabF i D2 g r) css bss) ∧ Ext w6 wr) (fun iv _ => n2 - (intOf iv).toNat)
      case atStart => exact ⟨0, css, bss, by omega, rfl, HT, he⟩
      case round =>
        clear HT he
        obtain ⟨r, css, bss, hr, rfl, HT, he⟩ := hrel
        by_cases hlt2 : r < n2
        · have hrR : r < R := by have := HB.out; omega
          have hlr := hl6.ext he
          obtain ⟨hb1, hb2⟩ := hlab.out r hrR
          have hgr := Hlt.out r
          obtain ⟨x, hx1, hx2, hx3⟩ := tabF_get (l := D2) (g := g) (r := r) (O := i) (a := (D2.getD r 0).toNat) (by omega)
          obtain ⟨cs, bs, d, ha1, ha2, ha3, ha4⟩ := HT.out.at (i := (D2.getD r 0).toNat) (by omega)
          rw [hx1] at ha3
          cases ha3
          obtain ⟨qa, ca, rfl, oa, oc1, oc2, rfl⟩ := own_ints.1 ha4
          have hbd := tabF_bd i D2 g r (D2.getD r 0).toNat (g r)
          rw [hx2] at hbd
          have hx4 := hx2
          have hTs : tabF i D2 g (r + 1) = (tabF i D2 g r).set (D2.getD r 0).toNat (x.set (g r) (x.getD (g r) 0 + 1)) := by
            show incT _ _ _ = _
            unfold incT
            rw [hx2]
          have HTs := hid hTs
          have hga := one_get HT.out.all ha1
          have hcf : css.flatten.length = i := by have h := flat_len' (s := 1) HT.out.all; rw [h, HT.out.cnt, Nat.mul_one]
          have ho1 := HT.out.row.cs
          have hbs := hid ha2
          have hcs := hid ha1
          have hx3' := hid hx3
          have hga := hid hga
          have hcf := hid hcf
          have oa := hid oa
          have oc := hid (And.intro oc1 oc2)
          have ra := oa.out.cs
          obtain ⟨k1, k2, k3, k4⟩ := cell_le (C := i) hrR hR1 (by omega)
          have hz3 := HN3.out
          have hz4 := HZ.out
          have B1 := hid (fun W => row_any R i r n3 c2 q2 W hrR hR1 (by omega) (by omega) hc2.out)
          have hWr := he.trans (Ext.drew wr)
          have G1 := hid (fun W (h : Ext wr.drew W) => greatestOf_any (subp q2 1 (r * i) c2) i (c2 - r * i) _ (rowT zs i r) W (HL.out r hrR) hO1 (by unfold maxLen; omega) ((row_cs hpz (by have := hc2.out; omega)).ext (hWr.trans h)) (hf2.part _ _))
          rw [HG.out r hrR] at G1
          have l0 := hWr.cell j0; have l1 := hWr.cell j1; have l2 := hWr.cell j2
          have d1 := ho1.ext (Ext.drew wr)
          have d2 := ra.ext (Ext.drew wr)
          generalize hlb : D2.getD r 0 = lb at *
          have Hlb := hid hlb
          generalize hgg : g r = gr at *
          generalize hxv : x.getD gr 0 = xv at *
          have Hxv := hid hxv
          have qx : IntKind.i64.wrap (xv + 1) = xv + 1 := wrap_in _ (by omega) (by omega)
          clear hxv
          clear hlb hgg hx1 hx2 hx4 ha1 ha2 ha4 hTs hx3 k1 k2 k3 k4 hz3 hz4 ho1 ra
          rw [hx3'.out] at hcs hga oa
          generalize hrI : r * i = rI at *
          clear hrI
          obtain ⟨F, hF⟩ : ∃ F : Option Tmp → World → Value → Prop, F = fun d _ u => match d with | some 62 => u = .slice (subp q2 1 rI c2) i (c2 - rI) | _ => u = .int .i64 gr := ⟨_, rfl⟩
          have HF := hid hF
          clear hF
          go_wp2_with ((with_reducible show wpList _ _ _ (Oper.mk _ (Op.indexAddr _ _ _) _ _ _ _ :: Oper.mk _ (Op.load _ _) _ _ _ _ :: _) _ _); refine wl_ldI rfl rfl rfl rfl (fun _ => rfl) rfl rfl hlr HN2.out (by omega) (by omega) ?_; rw [Int.toNat_natCast, Hlb.out])
          refine wp_region_xt 12 (F := F) (by kernel_rfl) (by kernel_rfl) (by kernel_rfl) (by kernel_rfl) (by kernel_rfl) ?_
          intro wf hwf
          simp only [List.take_succ_cons, List.take_zero, List.drop_succ_cons, List.drop_zero]
          repeat (first
            | (refine x_skip rfl ?_; simp only [Act.put, ev_tmp, List.setIfInBounds_toArray, List.set_cons_succ, List.set_cons_zero, List.getD_cons_succ, List.getD_cons_zero])
            | (refine x_mv rfl rfl rfl ?_; simp only [Act.put, ev_tmp, List.setIfInBounds_toArray, List.set_cons_succ, List.set_cons_zero, List.getD_cons_succ, List.getD_cons_zero])
            | (refine x_as rfl rfl rfl ?_; simp only [Act.put, ev_tmp, List.setIfInBounds_toArray, List.set_cons_succ, List.set_cons_zero, List.getD_cons_succ, List.getD_cons_zero])
            | ((with_reducible show wpX _ _ _ _ _ _ (Oper.mk _ (Op.indexAddr _ _ _) _ _ _ _ :: Oper.mk _ (Op.load _ _) _ _ _ _ :: _) _); refine x_idxload rfl rfl (fun _ => rfl) rfl (fun _ => rfl) rfl rfl d1 hcf.out (by omega) (by omega) ?_; intro u hu; rw [hga.out] at hu; cases hu; simp only [Act.put, ev_tmp, List.setIfInBounds_toArray, List.set_cons_succ, List.set_cons_zero, List.getD_cons_succ, List.getD_cons_zero])
            | ((with_reducible show wpX _ _ _ _ _ _ (Oper.mk _ (Op.call _) _ _ _ _ :: _) _); refine x_callf (f := 98) (args := #[.agg #[.int .i64 R, .int .i64 i, .slice q2 n3 c2], .int .i64 r]) rfl rfl Try.func98 rfl (by kernel_rfl) ?_ ?_ ?_; (focus (simp [Act.eval]; done)); (focus (intro w1 hw1; exact (by rw [HF.out]; exact (B1.out w1).mono fun e w3 h => ⟨_, h.1, h.2, rfl⟩))); rintro u w3 e3 e4 hu; simp only [HF.out] at hu; subst hu; simp only [Act.put, ev_tmp, List.setIfInBounds_toArray, List.set_cons_succ, List.set_cons_zero, List.getD_cons_succ, List.getD_cons_zero])
            | ((with_reducible show wpX _ _ _ _ _ _ (Oper.mk _ (Op.call _) _ _ _ _ :: _) _); refine x_callf (f := 97) (args := #[.slice (subp q2 1 rI c2) i (c2 - rI)]) rfl rfl Try.func97 rfl (by kernel_rfl) ?_ ?_ ?_; (focus (simp [Act.eval]; done)); (focus (intro w1 hw1; exact (by rw [HF.out]; exact (G1.out w1 hw1).mono fun e w3 h => ⟨_, h.1, h.2, rfl⟩))); rintro u w3 e3 e4 hu; simp only [HF.out] at hu; subst hu; simp only [Act.put, ev_tmp, List.setIfInBounds_toArray, List.set_cons_succ, List.set_cons_zero, List.getD_cons_succ, List.getD_cons_zero])
            | ((with_reducible show wpX _ _ _ _ _ _ (Oper.mk _ (Op.indexAddr _ _ _) _ _ _ _ :: Oper.mk _ (Op.load _ _) _ _ _ _ :: _) _); refine x_ldI rfl rfl (fun _ => rfl) rfl (fun _ => rfl) rfl rfl d2 hx3'.out (by omega) (by omega) ?_; rw [Int.toNat_natCast, Hxv.out]; simp only [Act.put, ev_tmp, List.setIfInBounds_toArray, List.set_cons_succ, List.set_cons_zero, List.getD_cons_succ, List.getD_cons_zero])
            | ((with_reducible show wpX _ _ _ _ _ _ (Oper.mk _ (Op.indexAddr _ _ _) _ _ _ _ :: _) _); refine x_idx (s := 1) rfl rfl rfl rfl (d2.isS (by intro h; have := congrArg List.length h; rw [List.length_map, hx3'.out] at this; simp at this; omega)) (by omega) (by omega) ?_; rw [Int.toNat_natCast, Nat.mul_one]; simp only [Act.put, ev_tmp, List.setIfInBounds_toArray, List.set_cons_succ, List.set_cons_zero, List.getD_cons_succ, List.getD_cons_zero])
            | (refine x_run rfl fun K hK w1 hw1 => ?_; have k0 := hw1.cell (l0); have k1 := hw1.cell (l1); have k2 := hw1.cell (l2); go_simp; refine hK _ ?_; clear hK K k0 k1 k2 hw1 w1))
          refine x_nil ?_
          have eW := hWr.trans hwf
          have To := hid (HT.out.ext ((Ext.drew wr).trans hwf))
          have oa2 := (Own.ext (own_intsE.2 ⟨hx3'.out, oa.out, by have := oc.out.1; rw [hx3'.out] at this; exact this, oc.out.2, rfl⟩) ((Ext.drew wr).trans hwf))
          have oa3 := (own_intsE.1 oa2).2.1
          obtain ⟨s1, s2, s3, v0, s4⟩ := oa3.set gr (by rw [List.length_map, hx3'.out]; omega) (.int .i64 (xv + 1))
          go_wp2_with ((with_reducible show wpList _ _ _ (Oper.mk _ (Op.store _ _ _) _ _ _ _ :: _) _ _); refine wl_store1 rfl rfl rfl rfl rfl s4 s3 ?_)
          go_roundw
          case rel =>
            rw [← List.map_set] at s1
            have T3 := To.out.turn hcs.out hbs.out s2 (fun b hb => hb) (d := x.set gr (xv + 1)) (own_intsE.2 ⟨by rw [List.length_set]; exact hx3'.out, s1, by have := oc.out.1; rw [hx3'.out] at this; exact this, oc.out.2, rfl⟩)
            rw [← HTs.out] at T3
            exact ⟨r + 1, css, bss, by omega, by go_num, T3, eW.chg s2 (fun b hb => To.out.lo b (List.mem_append_right _ (List.mem_flatten.2 ⟨_, List.mem_of_getElem? hbs.out, hb⟩)))⟩
          case measure => simp [intOf]; omega
        · obtain rfl : r = n2 := by omega
          have hR0 : r = R := HB.out
          subst hR0
          go_wp2
          go_ret2
          obtain ⟨bs, ho, hnd, hlo⟩ := HT.out.own
          exact ⟨_, bs, rfl, ho, hnd, fun b hb => Nat.le_trans E6.size (hlo b hb), E6.trans he⟩
end Go.Proofs.Ytlimabbeaimdgaa.lConfusionOf
