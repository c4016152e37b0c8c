/- RunPlanRows. -/
import Derived.Test.YtangnigplachdaaPRunS
import Derived.Test.YtangnigplachdaaRMod
namespace Go.Proofs.Ytangnigplachdaa.lRunPlanRows
set_option linter.unusedSimpArgs false
set_option linter.unusedVariables false
open Go.RowKit

/-- What a plan makes of the first rows. -/
def rowsP (l : List shPlanStep.T) (xs : List Nat) (c r : Nat) : List Nat := ((List.range r).map fun i => curP l (rowT xs c i) l.length).flatten
theorem rowsP_zero (l : List shPlanStep.T) (xs : List Nat) (c : Nat) : rowsP l xs c 0 = [] := rfl
theorem rowsP_succ (l : List shPlanStep.T) (xs : List Nat) (c r : Nat) : rowsP l xs c (r + 1) = rowsP l xs c r ++ curP l (rowT xs c r) l.length := by
  simp [rowsP, List.range_succ]
theorem rowP_out {l : List shPlanStep.T} {xs : List Nat} {c R m : Nat} (hM : PlaOk l) (hc : tkB l c = true) (hm : (m : Int) = outP l c) (hx : xs.length = R * c) {i : Nat} (hi : i < R) : (curP l (rowT xs c i) l.length).length = m := by
  have h1 := curP_out hM (x := rowT xs c i) (by rw [rowT_len hx hi]; exact hc)
  rw [rowT_len hx hi] at h1
  omega
theorem rowsP_len {l : List shPlanStep.T} {xs : List Nat} {c R m : Nat} (hM : PlaOk l) (hc : tkB l c = true) (hm : (m : Int) = outP l c) (hx : xs.length = R * c) : ∀ r, r ≤ R → (rowsP l xs c r).length = r * m
  | 0, _ => by simp [rowsP_zero]
  | r + 1, h => by
    have h1 := rowP_out hM hc hm hx (i := r) (by omega)
    rw [rowsP_succ, List.length_append, rowsP_len hM hc hm hx r (by omega), Nat.add_mul]
    omega
theorem outP_nat {l : List shPlanStep.T} {c : Nat} (hM : PlaOk l) (hc : tkB l c = true) : ∃ m : Nat, (m : Int) = outP l c ∧ m ≤ 8 := by
  have h1 := curP_out hM (x := List.replicate c 0) (by rw [List.length_replicate]; exact hc)
  have h2 := curP_le hM (x := List.replicate c 0) (by rw [List.length_replicate]; exact hc) l.length (Nat.le_refl _)
  rw [List.length_replicate] at h1
  exact ⟨_, h1, h2⟩
def res (d : shPlan.T) (x : shTensor.T) : shTensor.T × Bool := if plaB d.1 = true ∧ tenB x.1 x.2.1 (x.2.2.1 : List Nat).length = true ∧ tkB d.1 x.2.1 = true then ((x.1, outP d.1 x.2.1, rowsP d.1 x.2.2.1 x.2.1.toNat x.1.toNat, ()), true) else ((0, 0, [], ()), false)
theorem res_bd (d : shPlan.T) (x : shTensor.T) (_ : tot shPlan d ≤ 1048576) (_ : tot shTensor x ≤ 1048576) : tot shTensor (res d x).1 ≤ 1048576 := by
  unfold res
  split
  · rename_i h
    obtain ⟨h1, h2, h3⟩ := h
    have hM := plaOk h1
    obtain ⟨R, C, e1, e2, hR, hR1, hC, hC1, hn⟩ := tenB_of h2
    rw [e2] at h3
    obtain ⟨m, hm, hm8⟩ := outP_nat hM h3
    have hl := rowsP_len (xs := x.2.2.1) (c := C) hM h3 hm hn R (Nat.le_refl _)
    have h4 := Nat.mul_le_mul hR1 hm8
    rw [e1, e2]
    simp only [Int.toNat_natCast]
    generalize rowsP d.1 x.2.2.1 C R = z at *
    have h5 : tot shTensor ((R : Int), outP d.1 (C : Int), z, ()) = tot (.sl .flt) z := by simp only [tot]; omega
    have h6 : tot shTensor ((R : Int), outP d.1 (C : Int), z, ()) ≤ 1048576 := by rw [h5, tot_flts]; omega
    exact h6
  · simp [tot]
theorem res_no {d : shPlan.T} {x : shTensor.T} (h : ¬ (plaB d.1 = true ∧ tenB x.1 x.2.1 (x.2.2.1 : List Nat).length = true ∧ tkB d.1 x.2.1 = true)) : res d x = ((0, 0, [], ()), false) := by unfold res; rw [if_neg h]
set_option maxRecDepth 100000 in
set_option maxHeartbeats 4000000 in
theorem impl_ok (cs0 : List Value) (D0 : shPlan.T) (cs1 : List Value) (D1 : shTensor.T) (w : World) (h0 : Rep w shPlan cs0 D0) (h1 : Rep w shTensor cs1 D1) : Calls Try.prog 50 #[ofCs shPlan cs0, ofCs shTensor cs1] w (OutT w 45 shTensor (res D0 D1)) := by
  obtain ⟨p, c, css, rfl, L⟩ := stps_of h0
  obtain ⟨l, u0⟩ := D0
  obtain ⟨q, cq, us, rfl, hp, hf, hcq, hcm⟩ := ten_vals h1
  obtain ⟨r, k, xs, v1⟩ := D1
  dsimp only at hp hf hcq hcm L ⊢
  simp only [ofCs, Sh.agg, if_true]
  have hxm : xs.length ≤ maxLen := Nat.le_trans hcq hcm
  obtain ⟨W0, hW0⟩ : ∃ W0, W0 = ((w.alloc (.cells #[.slice p l.length c] 75)).alloc (.cells #[.int .i64 r, .int .i64 k, .slice q xs.length cq] 45)).alloc (.cells #[.int .i64 0, .int .i64 0, .slice none 0 0] 45) := ⟨_, rfl⟩
  obtain ⟨E0, s0, b0, b1, b2⟩ := box3 hW0
  have a0 : W0.cell? ⟨w.heap.size, 0, none⟩ = some (.slice p l.length c) := cell_of_heap b0 rfl
  have t0 : W0.cell? ⟨w.heap.size + 1, 0, none⟩ = some (.int .i64 r) := cell_of_heap b1 rfl
  have t1 : W0.cell? ⟨w.heap.size + 1, 1, none⟩ = some (.int .i64 k) := cell_of_heap b1 rfl
  have t2 : W0.cell? ⟨w.heap.size + 1, 2, none⟩ = some (.slice q xs.length cq) := cell_of_heap b1 rfl
  have z0 : W0.cell? ⟨w.heap.size + 2, 0, none⟩ = some (.int .i64 0) := cell_of_heap b2 rfl
  have z1 : W0.cell? ⟨w.heap.size + 2, 1, none⟩ = some (.int .i64 0) := cell_of_heap b2 rfl
  have z2 : W0.cell? ⟨w.heap.size + 2, 2, none⟩ = some (.slice none 0 0) := cell_of_heap b2 rfl
  have y0 := fun j => frozen_of_heap b2 (j := j)
  clear b0 b1 b2
  have A := hid (fun W (h : Ext W0 W) => takes_any p l.length c k css l W (L.ext (E0.trans h)))
  have B := hid (ValidTensor_any r k q xs.length cq W0 hxm)
  cases hb2 : tenB r k xs.length
  · rw [res_no (fun h => by have := h.2.1; dsimp only at this; rw [hb2] at this; cases this)]
    rw [hb2] at B
    clear A L hp hf hcq hcm h0 h1
    generalize l.length = n at *
    generalize xs.length = m at *
    go_enter Try.func50, Try.ntmps50
    go_wp2_with fail
    rw [← hW0]
    clear hW0
    refine B.out.mono ?_
    rintro e w1 ⟨rfl, e1⟩
    have n0 := e1.cell z0; have n1 := e1.cell z1; have n2 := e1.cell z2
    have n3 := e1.frozen (p := ⟨w.heap.size + 2, 0, none⟩) (by simp; omega) (y0 0)
    have n4 := e1.frozen (p := ⟨w.heap.size + 2, 1, none⟩) (by simp; omega) (y0 1)
    have n5 := e1.frozen (p := ⟨w.heap.size + 2, 2, none⟩) (by simp; omega) (y0 2)
    clear z0 z1 z2 y0
    go_wp2
    refine bodyPost_ret (v := .tuple #[.agg #[.int .i64 0, .int .i64 0, .slice none 0 0], .bool false]) (by simp [results, Try.results50, go_sem, n0, n1, n2, n3, n4, n5]) rfl ?_
    exact lRunModel.outT_no_ten rfl (by have := E0.trans e1; (repeat (first | with_reducible exact Ext.refl _ | with_reducible assumption | ((with_reducible refine Ext.setCell ?_ ?_ _); rotate_left; focus (first | (simp; done) | (simp; omega))) | (with_reducible refine Ext.trans ?_ (Ext.alloc _ _)) | (with_reducible refine Ext.trans ?_ (Ext.drew _)) | (with_reducible refine Ext.trans ?_ (by with_reducible assumption)))))
  · rw [hb2] at B
    cases hb1 : plaB l && tkB l k
    · rw [res_no (fun h => by have := h.1; have h2 := h.2.2; dsimp only at this h2; rw [this, h2] at hb1; cases hb1)]
      rw [hb1] at A
      clear L hp hf hcq hcm h0 h1
      generalize l.length = n at *
      generalize xs.length = m at *
      go_enter Try.func50, Try.ntmps50
      go_wp2_with fail
      rw [← hW0]
      clear hW0
      refine B.out.mono ?_
      rintro e w1 ⟨rfl, e1⟩
      have m0 := e1.cell a0; have m1 := e1.cell t0; have m2 := e1.cell t1; have m3 := e1.cell t2
      go_wp2_with fail
      refine (A.out _ e1).mono ?_
      rintro e w2 ⟨rfl, e2⟩
      have eF := e1.trans e2
      have n0 := eF.cell z0; have n1 := eF.cell z1; have n2 := eF.cell z2
      have n3 := eF.frozen (p := ⟨w.heap.size + 2, 0, none⟩) (by simp; omega) (y0 0)
      have n4 := eF.frozen (p := ⟨w.heap.size + 2, 1, none⟩) (by simp; omega) (y0 1)
      have n5 := eF.frozen (p := ⟨w.heap.size + 2, 2, none⟩) (by simp; omega) (y0 2)
      clear z0 z1 z2 y0
      go_wp2
      refine bodyPost_ret (v := .tuple #[.agg #[.int .i64 0, .int .i64 0, .slice none 0 0], .bool false]) (by simp [results, Try.results50, go_sem, n0, n1, n2, n3, n4, n5]) rfl ?_
      exact lRunModel.outT_no_ten rfl (by have := E0.trans eF; (repeat (first | with_reducible exact Ext.refl _ | with_reducible assumption | ((with_reducible refine Ext.setCell ?_ ?_ _); rotate_left; focus (first | (simp; done) | (simp; omega))) | (with_reducible refine Ext.trans ?_ (Ext.alloc _ _)) | (with_reducible refine Ext.trans ?_ (Ext.drew _)) | (with_reducible refine Ext.trans ?_ (by with_reducible assumption)))))
    · rw [hb1] at A
      rw [Bool.and_eq_true] at hb1
      obtain ⟨R, C, e1, e2, hR, hR1, hC, hC1, hxs⟩ := tenB_of hb2
      subst e1 e2
      have hres : res (l, u0) (↑R, ↑C, xs, v1) = ((↑R, outP l C, rowsP l xs C R, ()), true) := by
        unfold res
        rw [if_pos ⟨hb1.1, hb2, hb1.2⟩]
        rfl
      rw [hres]
      have hM := plaOk hb1.1
      have hT := hb1.2
      obtain ⟨m, hm, hm8⟩ := outP_nat hM hT
      have hlen := rowsP_len hM hT hm hxs
      rw [← hm]
      have B1 := hid (fun i (hi : i < R) W => row_any R C i xs.length cq q W hi hR1 hC1 hxs hcq)
      have D := hid (fun i (hi : i < R) W (h : Ext W0 W) => planRun_any p (subp q 1 (i * C) cq) l.length c C (cq - i * C) css l (rowT xs C i) W (L.ext (E0.trans h)) hM (rep_row (hp.ext (E0.trans h)) hf hxs hi (by omega) hcm) (by rw [rowT_len hxs hi]; exact hT))
      have Hlen := hid hlen
      have Hs := hid (fun r => rowsP_succ l xs C r)
      have Hcur := hid (fun i (hi : i < R) => rowP_out hM hT hm hxs hi)
      clear L hM hb1 hb2 hT hlen hm hp hf hcq hres h0 h1 hxs hxm
      generalize hn : l.length = n at *
      have HN := hid hn
      clear hn
      generalize xs.length = kk at *
      go_enter Try.func50, Try.ntmps50
      go_wp2_with fail
      rw [← hW0]
      clear hW0
      refine B.out.mono ?_
      rintro e w1 ⟨rfl, e1⟩
      have m0 := e1.cell a0; have m1 := e1.cell t0; have m2 := e1.cell t1; have m3 := e1.cell t2
      go_wp2_with fail
      refine (A.out _ e1).mono ?_
      rintro e w2 ⟨rfl, e2⟩
      have eF := e1.trans e2
      have j0 := eF.cell a0; have j1 := eF.cell t0; have j2 := eF.cell t1; have j3 := eF.cell t2
      have hz2 : w.heap.size + 2 < w2.heap.size := lt_of_cell (eF.cell z0)
      clear A B m0 m1 m2 m3
      have x1 := (Ext.alloc w2 (.cells #[.int .i64 R, .int .i64 0, .slice none 0 0] 45)).cell j1
      go_wp2
      go_loopw [25] (fun iv wr => ∃ (r : Nat) (c1 : Int) (v : Value) (vs : List Value), r ≤ R ∧ iv = .int .i64 r ∧ (1 ≤ r → c1 = m) ∧ wr.cell? ⟨w2.heap.size, 0, none⟩ = some (.int .i64 R) ∧ wr.cell? ⟨w2.heap.size, 1, none⟩ = some (.int .i64 c1) ∧ wr.frozen? ⟨w2.heap.size, 1, none⟩ = false ∧ wr.cell? ⟨w2.heap.size, 2, none⟩ = some v ∧ wr.frozen? ⟨w2.heap.size, 2, none⟩ = false ∧ wr.ownsRow (w2.heap.size + 1) 106 1 v (r * m) vs ∧ Hid (F32s vs (rowsP l xs C r)) ∧ Ext w2 wr ∧ w2.heap.size < wr.heap.size) (fun iv _ => R - (intOf iv).toNat)
      case atStart => exact ⟨0, 0, .slice none 0 0, [], by omega, rfl, by omega, by go_simp, by go_simp, by go_simp, by go_simp, by go_simp, ⟨by simp, .inl ⟨rfl, by simp⟩⟩, F32s.nil, by (repeat (first | with_reducible exact Ext.refl _ | with_reducible assumption | ((with_reducible refine Ext.setCell ?_ ?_ _); rotate_left; focus (first | (simp; done) | (simp; omega))) | (with_reducible refine Ext.trans ?_ (Ext.alloc _ _)) | (with_reducible refine Ext.trans ?_ (Ext.drew _)) | (with_reducible refine Ext.trans ?_ (by with_reducible assumption)))), by simp⟩
      case round =>
        obtain ⟨r, c1, v, vs, hr, rfl, hc1, k0, k1, k2, k3, k4, hown, HV, he, hz⟩ := hrel
        obtain ⟨q6, c6, rfl⟩ := own_slice hown
        by_cases hlt : r < R
        · have hRm : r * m ≤ 128 := Nat.mul_le_mul (show r ≤ 16 by omega) hm8
          have Am := hid (app_row (Hlen.out r hr))
          have eD := he.trans (Ext.drew wr)
          have g0 := eD.cell j0
          have g1 := eD.cell j1
          have g2 := eD.cell j2
          have g3 := eD.cell j3
          have C1 := hid (B1.out r hlt)
          have C2 := hid (fun W (h : Ext wr.drew W) => D.out r hlt W (eF.trans (eD.trans h)))
          have hcl := Hcur.out r hlt
          have Hsr := hid (Hs.out r)
          have Hc := hid hcl
          clear B1 D Hcur hcl
          generalize hrc : r * C = rC at *
          clear hrc
          obtain ⟨F, hF⟩ : ∃ F : Option Tmp → World → Value → Prop, F = fun d w' u => match d with | some 31 => u = .slice (subp q 1 rC cq) C (cq - rC) | some 32 => IsFl (w2.heap.size + 1) (curP l (rowT xs C r) n) w' u | _ => False := ⟨_, rfl⟩
          have HF := hid hF
          have hwz := hid (fun W (h : Ext wr.drew W) => show w2.heap.size + 1 ≤ W.heap.size by have := h.size; simp at this; omega)
          clear hF
          go_wp2
          refine wp_region_xall (F := F) (by kernel_rfl) (by kernel_rfl) (by kernel_rfl) ?_
          intro wf hwf
          repeat (first
            | (refine x_skip rfl ?_; simp only [Act.put, ev_tmp, List.setIfInBounds_toArray, List.set_cons_succ, List.set_cons_zero, List.getD_cons_succ, List.getD_cons_zero])
            | (refine x_mv rfl rfl rfl ?_; simp only [Act.put, ev_tmp, List.setIfInBounds_toArray, List.set_cons_succ, List.set_cons_zero, List.getD_cons_succ, List.getD_cons_zero])
            | (refine x_as rfl rfl rfl ?_; simp only [Act.put, ev_tmp, List.setIfInBounds_toArray, List.set_cons_succ, List.set_cons_zero, List.getD_cons_succ, List.getD_cons_zero])
            | ((with_reducible show wpX _ _ _ _ _ _ (Oper.mk _ (Op.call _) _ _ _ _ :: _) _); refine x_callf (f := 102) (args := #[.agg #[.int .i64 R, .int .i64 C, .slice q kk cq], .int .i64 r]) rfl rfl Try.func102 rfl (by kernel_rfl) ?_ ?_ ?_; (focus (simp [Act.eval]; done)); (focus (intro w1 hw1; exact (by rw [HF.out]; exact (C1.out w1).mono fun e w3 h => ⟨_, h.1, h.2, rfl⟩))); rintro u w3 e3 e4 hu; simp only [HF.out] at hu; subst hu; simp only [Act.put, ev_tmp, List.setIfInBounds_toArray, List.set_cons_succ, List.set_cons_zero, List.getD_cons_succ, List.getD_cons_zero])
            | ((with_reducible show wpX _ _ _ _ _ _ (Oper.mk _ (Op.call _) _ _ _ _ :: _) _); refine x_callf (f := 111) (args := #[.agg #[.slice p n c], .slice (subp q 1 rC cq) C (cq - rC)]) rfl rfl Try.func111 rfl (by kernel_rfl) ?_ ?_ ?_; (focus (simp [Act.eval]; done)); (focus (intro w1 hw1; exact (by rw [HF.out]; exact (C2.out w1 hw1).mono fun e w3 h => (h.is).elim fun v h => ⟨v, h.1, h.2.1, show IsFl (w2.heap.size + 1) (curP l (rowT xs C r) n) w3 v from h.2.2.base (hwz.out w1 hw1)⟩))); rintro u w3 e3 e4 hu; simp only [HF.out] at hu; have HU := hid (IsFl.ext hu e4); clear hu; simp only [Act.put, ev_tmp, List.setIfInBounds_toArray, List.set_cons_succ, List.set_cons_zero, List.getD_cons_succ, List.getD_cons_zero])
            | (refine x_run rfl fun K hK w1 hw1 => ?_; have k0 := hw1.cell (g0); have k1 := hw1.cell (g1); have k2 := hw1.cell (g2); have k3 := hw1.cell (g3); go_simp; refine hK _ ?_; clear hK K k0 k1 k2 k3 hw1 w1))
          refine x_nil ?_
          obtain ⟨q8, c8, us8, rfl, ho8, hf8⟩ := HU.out
          clear HU
          have hc8 := own_cap ho8
          have hx8 := Hc.out
          generalize hgl : (curP l (rowT xs C r) n).length = m8 at *
          obtain rfl := hx8
          have eW := (Ext.drew wr).trans hwf
          have hownF := own_ext hown eW
          have hzF : w2.heap.size < wf.heap.size := Nat.lt_of_lt_of_le hz eW.size
          have o1 := eW.cell k1
          have o2 := eW.frozen (p := ⟨w2.heap.size, 1, none⟩) hz k2
          have o3 := eW.cell k3
          have o4 := eW.frozen (p := ⟨w2.heap.size, 2, none⟩) hz k4
          have o0 := eW.cell k0
          have l1 := he.trans eW
          have hS : Chg (fun k => k = w2.heap.size) wf (wf.setCell ⟨w2.heap.size, 1, none⟩ (.int .i64 m8)) := by (repeat (first | with_reducible exact Chg.refl _ _ | (with_reducible exact Chg.of_ext (by with_reducible assumption)) | with_reducible assumption | ((with_reducible refine Chg.setCell ?_ ?_ _); rotate_left; focus (first | (simp; done) | (simp; omega))) | (with_reducible refine Chg.alloc ?_ _) | (with_reducible refine Chg.drew ?_) | (with_reducible refine Chg.trans ?_ (Chg.of_ext (by with_reducible assumption)))))
          have hownS := own_chgB hownF hS (fun k hk => by omega)
          have ho8S := own_Cs (own_chgB ho8 hS (fun k hk => by omega))
          have hmm := hid (hf8.one)
          have hwz2 : w2.heap.size + 1 ≤ (wf.setCell ⟨w2.heap.size, 1, none⟩ (.int .i64 m8)).heap.size := by simp; omega
          have p0 : (wf.setCell ⟨w2.heap.size, 1, none⟩ (.int .i64 m8)).cell? ⟨w2.heap.size, 0, none⟩ = some (.int .i64 R) := by go_simp
          have p1 : (wf.setCell ⟨w2.heap.size, 1, none⟩ (.int .i64 m8)).cell? ⟨w2.heap.size, 1, none⟩ = some (.int .i64 m8) := by go_simp
          have p2 : (wf.setCell ⟨w2.heap.size, 1, none⟩ (.int .i64 m8)).cell? ⟨w2.heap.size, 2, none⟩ = some (.slice q6 (r * m8) c6) := by go_simp
          have p3 : (wf.setCell ⟨w2.heap.size, 1, none⟩ (.int .i64 m8)).frozen? ⟨w2.heap.size, 1, none⟩ = false := by go_simp
          have p4 : (wf.setCell ⟨w2.heap.size, 1, none⟩ (.int .i64 m8)).frozen? ⟨w2.heap.size, 2, none⟩ = false := by go_simp
          have hzS : w2.heap.size < (wf.setCell ⟨w2.heap.size, 1, none⟩ (.int .i64 m8)).heap.size := by simpa using hzF
          have l2 := l1.chg hS (fun k hk => by omega)
          clear ho8
          go_wp2_with ((with_reducible show wpList _ _ _ (Oper.mk _ (Op.call _) _ _ _ _ :: _) _ _); refine wl_appz rfl rfl rfl rfl hownS ho8S (by rw [Nat.mul_one, hf8.1, hgl]) hc8.1 hmm.out (by unfold maxLen; omega) (by omega) hwz2 ?_; intro v9 w9 own9 g9; obtain ⟨q9, c9, rfl⟩ := own_slice own9; have l4 := (g9.block w2.heap.size hzS (fun hh => by have := own_le hownS _ hh.symm; omega)); have l5 := (World.cell?_of_block (a := ⟨w2.heap.size, 2, none⟩) l4).trans p2; have l6 := (World.frozen?_of_block (a := ⟨w2.heap.size, 2, none⟩) l4).trans p4)
          go_roundw
          case rel =>
            have i0 := (World.cell?_of_block (a := ⟨w2.heap.size, 0, none⟩) l4).trans p0
            have i1 := (World.cell?_of_block (a := ⟨w2.heap.size, 1, none⟩) l4).trans p1
            have i2 := (World.frozen?_of_block (a := ⟨w2.heap.size, 1, none⟩) l4).trans p3
            have am := Am.out
            have e9 : Ext w2 w9 := l2.grown g9 (fun k hk => by have := own_le hownS k hk; omega)
            have hz9 := g9.size
            have hchg : Chg (fun k => k = w2.heap.size) w9 (w9.setCell ⟨w2.heap.size, 2, none⟩ (.slice q9 (r * m8 + m8) c9)) := by (repeat (first | with_reducible exact Chg.refl _ _ | (with_reducible exact Chg.of_ext (by with_reducible assumption)) | with_reducible assumption | ((with_reducible refine Chg.setCell ?_ ?_ _); rotate_left; focus (first | (simp; done) | (simp; omega))) | (with_reducible refine Chg.alloc ?_ _) | (with_reducible refine Chg.drew ?_) | (with_reducible refine Chg.trans ?_ (Chg.of_ext (by with_reducible assumption)))))
            have hF9 := HV.out.app hf8
            rw [← Hsr.out] at hF9
            refine ⟨r + 1, m8, .slice q9 (r * m8 + m8) c9, vs ++ us8, by omega, by go_num, fun _ => rfl, by go_simp, by go_simp, by go_simp, by go_simp, by go_simp, ?_, hF9, ?_, by simp; omega⟩
            · rw [am]; exact own_chgB own9 hchg (fun k hk => by omega)
            · exact e9.chg hchg (fun k hk => by omega)
          case measure => simp [intOf]; omega
        · obtain rfl : r = R := by omega
          obtain rfl := hc1 hR
          have eA := eF.trans he
          have n0 := eA.cell z0
          have n1 := eA.cell z1
          have n2 := eA.cell z2
          have n3 := eA.frozen (p := ⟨w.heap.size + 2, 0, none⟩) (by simp; omega) (y0 0)
          have n4 := eA.frozen (p := ⟨w.heap.size + 2, 1, none⟩) (by simp; omega) (y0 1)
          have n5 := eA.frozen (p := ⟨w.heap.size + 2, 2, none⟩) (by simp; omega) (y0 2)
          clear z0 z1 z2 y0
          go_wp2
          refine bodyPost_ret (v := .tuple #[.agg #[.int .i64 r, .int .i64 m, .slice q6 (r * m) c6], .bool true]) (by simp [results, Try.results50, go_sem, n0, n1, n2, n3, n4, n5]) rfl ?_
          exact lRunModel.outT_ten (Hlen.out r (Nat.le_refl _)) (own_base (own_chgB (S := fun k => k = w.heap.size + 2) hown (by (repeat (first | with_reducible exact Chg.refl _ _ | (with_reducible exact Chg.of_ext (by with_reducible assumption)) | with_reducible assumption | ((with_reducible refine Chg.setCell ?_ ?_ _); rotate_left; focus (first | (simp; done) | (simp; omega))) | (with_reducible refine Chg.alloc ?_ _) | (with_reducible refine Chg.drew ?_) | (with_reducible refine Chg.trans ?_ (Chg.of_ext (by with_reducible assumption)))))) (fun k hk => by omega)) (by omega)) HV.out (by decide) rfl (by have := E0.trans eA; (repeat (first | with_reducible exact Ext.refl _ | with_reducible assumption | ((with_reducible refine Ext.setCell ?_ ?_ _); rotate_left; focus (first | (simp; done) | (simp; omega))) | (with_reducible refine Ext.trans ?_ (Ext.alloc _ _)) | (with_reducible refine Ext.trans ?_ (Ext.drew _)) | (with_reducible refine Ext.trans ?_ (by with_reducible assumption)))))
set_option maxRecDepth 100000 in
set_option maxHeartbeats 4000000 in
theorem spec_ok (cs0 : List Value) (D0 : shPlan.T) (cs1 : List Value) (D1 : shTensor.T) (w : World) (h0 : Rep w shPlan cs0 D0) (h1 : Rep w shTensor cs1 D1) : Calls Try.prog 49 #[ofCs shPlan cs0, ofCs shTensor cs1] w (OutT w 45 shTensor (res D0 D1)) := by
  obtain ⟨p, c, css, rfl, L⟩ := stps_of h0
  obtain ⟨l, u0⟩ := D0
  obtain ⟨q, cq, us, rfl, hp, hf, hcq, hcm⟩ := ten_vals h1
  obtain ⟨r, k, xs, v1⟩ := D1
  dsimp only at hp hf hcq hcm L ⊢
  simp only [ofCs, Sh.agg, if_true]
  have hxm : xs.length ≤ maxLen := Nat.le_trans hcq hcm
  obtain ⟨W0, hW0⟩ : ∃ W0, W0 = ((w.alloc (.cells #[.slice p l.length c] 75)).alloc (.cells #[.int .i64 r, .int .i64 k, .slice q xs.length cq] 45)).alloc (.cells #[.int .i64 0, .int .i64 0, .slice none 0 0] 45) := ⟨_, rfl⟩
  obtain ⟨E0, s0, b0, b1, b2⟩ := box3 hW0
  have a0 : W0.cell? ⟨w.heap.size, 0, none⟩ = some (.slice p l.length c) := cell_of_heap b0 rfl
  have t0 : W0.cell? ⟨w.heap.size + 1, 0, none⟩ = some (.int .i64 r) := cell_of_heap b1 rfl
  have t1 : W0.cell? ⟨w.heap.size + 1, 1, none⟩ = some (.int .i64 k) := cell_of_heap b1 rfl
  have t2 : W0.cell? ⟨w.heap.size + 1, 2, none⟩ = some (.slice q xs.length cq) := cell_of_heap b1 rfl
  have z0 : W0.cell? ⟨w.heap.size + 2, 0, none⟩ = some (.int .i64 0) := cell_of_heap b2 rfl
  have z1 : W0.cell? ⟨w.heap.size + 2, 1, none⟩ = some (.int .i64 0) := cell_of_heap b2 rfl
  have z2 : W0.cell? ⟨w.heap.size + 2, 2, none⟩ = some (.slice none 0 0) := cell_of_heap b2 rfl
  have y0 := fun j => frozen_of_heap b2 (j := j)
  clear b0 b1 b2
  have A := hid (fun W (h : Ext W0 W) => l09Is_any (sp := none) w.heap.size 0 p l.length c l css W (h.cell a0) L.len L.le (L.cs.ext (E0.trans h)) (L.all.imp fun _ _ => Rep.ext (E0.trans h)) L.size L.cnt)
  have B := hid (fun W (h : Ext W0 W) => l02Is_any (sp := none) (w.heap.size + 1) 0 r k q xs.length cq W (h.cell t0) (h.cell t1) (h.cell t2) hxm)
  have G := hid (fun W (h : Ext W0 W) => l09Fits_any (sp := none) w.heap.size 0 p l.length c k css l W (L.ext (E0.trans h)) (h.cell a0))
  cases hb1 : plaB l
  · rw [res_no (fun h => by have := h.1; dsimp only at this; rw [hb1] at this; cases this)]
    rw [hb1] at A
    clear B G
    clear L hp hf hcq hcm h0 h1
    generalize l.length = n at *
    generalize xs.length = m at *
    go_enter Try.func49, Try.ntmps49
    go_wp2_with fail
    rw [← hW0]
    clear hW0
    refine (A.out _ (Ext.refl _)).mono ?_
    rintro e w1 ⟨rfl, e1⟩
    have m0 := e1.cell a0; have m1 := e1.cell t0; have m2 := e1.cell t1; have m3 := e1.cell t2
    have n0 := e1.cell z0; have n1 := e1.cell z1; have n2 := e1.cell z2
    have n3 := e1.frozen (p := ⟨w.heap.size + 2, 0, none⟩) (by simp; omega) (y0 0)
    have n4 := e1.frozen (p := ⟨w.heap.size + 2, 1, none⟩) (by simp; omega) (y0 1)
    have n5 := e1.frozen (p := ⟨w.heap.size + 2, 2, none⟩) (by simp; omega) (y0 2)
    clear z0 z1 z2 y0
    go_wp2
    refine bodyPost_ret (v := .tuple #[.agg #[.int .i64 0, .int .i64 0, .slice none 0 0], .bool false]) (by simp [results, Try.results49, go_sem, n0, n1, n2, n3, n4, n5]) rfl ?_
    exact lRunModel.outT_no_ten rfl (by have := E0.trans e1; (repeat (first | with_reducible exact Ext.refl _ | with_reducible assumption | ((with_reducible refine Ext.setCell ?_ ?_ _); rotate_left; focus (first | (simp; done) | (simp; omega))) | (with_reducible refine Ext.trans ?_ (Ext.alloc _ _)) | (with_reducible refine Ext.trans ?_ (Ext.drew _)) | (with_reducible refine Ext.trans ?_ (by with_reducible assumption)))))
  rw [hb1] at A
  cases hb2 : tenB r k xs.length
  · rw [res_no (fun h => by have := h.2.1; dsimp only at this; rw [hb2] at this; cases this)]
    rw [hb2] at B
    clear G
    clear L hp hf hcq hcm h0 h1
    generalize l.length = n at *
    generalize xs.length = m at *
    go_enter Try.func49, Try.ntmps49
    go_wp2_with fail
    rw [← hW0]
    clear hW0
    refine (A.out _ (Ext.refl _)).mono ?_
    rintro e w1 ⟨rfl, e1⟩
    have m0 := e1.cell a0; have m1 := e1.cell t0; have m2 := e1.cell t1; have m3 := e1.cell t2
    go_wp2_with fail
    refine (B.out _ e1).mono ?_
    rintro e w2 ⟨rfl, e2⟩
    have eF := e1.trans e2
    have n0 := eF.cell z0; have n1 := eF.cell z1; have n2 := eF.cell z2
    have n3 := eF.frozen (p := ⟨w.heap.size + 2, 0, none⟩) (by simp; omega) (y0 0)
    have n4 := eF.frozen (p := ⟨w.heap.size + 2, 1, none⟩) (by simp; omega) (y0 1)
    have n5 := eF.frozen (p := ⟨w.heap.size + 2, 2, none⟩) (by simp; omega) (y0 2)
    clear z0 z1 z2 y0
    go_wp2
    refine bodyPost_ret (v := .tuple #[.agg #[.int .i64 0, .int .i64 0, .slice none 0 0], .bool false]) (by simp [results, Try.results49, go_sem, n0, n1, n2, n3, n4, n5]) rfl ?_
    exact lRunModel.outT_no_ten rfl (by have := E0.trans eF; (repeat (first | with_reducible exact Ext.refl _ | with_reducible assumption | ((with_reducible refine Ext.setCell ?_ ?_ _); rotate_left; focus (first | (simp; done) | (simp; omega))) | (with_reducible refine Ext.trans ?_ (Ext.alloc _ _)) | (with_reducible refine Ext.trans ?_ (Ext.drew _)) | (with_reducible refine Ext.trans ?_ (by with_reducible assumption)))))
  rw [hb2] at B
  cases hb3 : tkB l k
  · rw [res_no (fun h => by have := h.2.2; dsimp only at this; rw [hb3] at this; cases this)]
    rw [hb3] at G
    clear L hp hf hcq hcm h0 h1
    generalize l.length = n at *
    generalize xs.length = m at *
    go_enter Try.func49, Try.ntmps49
    go_wp2_with fail
    rw [← hW0]
    clear hW0
    refine (A.out _ (Ext.refl _)).mono ?_
    rintro e w1 ⟨rfl, e1⟩
    have m0 := e1.cell a0; have m1 := e1.cell t0; have m2 := e1.cell t1; have m3 := e1.cell t2
    go_wp2_with fail
    refine (B.out _ e1).mono ?_
    rintro e w2 ⟨rfl, e2⟩
    have e12 := e1.trans e2
    have i0 := e12.cell a0; have i1 := e12.cell t0; have i2 := e12.cell t1; have i3 := e12.cell t2
    go_wp2_with fail
    refine (G.out _ e12).mono ?_
    rintro e w3 ⟨rfl, e3⟩
    have eF := e12.trans e3
    have n0 := eF.cell z0; have n1 := eF.cell z1; have n2 := eF.cell z2
    have n3 := eF.frozen (p := ⟨w.heap.size + 2, 0, none⟩) (by simp; omega) (y0 0)
    have n4 := eF.frozen (p := ⟨w.heap.size + 2, 1, none⟩) (by simp; omega) (y0 1)
    have n5 := eF.frozen (p := ⟨w.heap.size + 2, 2, none⟩) (by simp; omega) (y0 2)
    clear z0 z1 z2 y0
    go_wp2
    refine bodyPost_ret (v := .tuple #[.agg #[.int .i64 0, .int .i64 0, .slice none 0 0], .bool false]) (by simp [results, Try.results49, go_sem, n0, n1, n2, n3, n4, n5]) rfl ?_
    exact lRunModel.outT_no_ten rfl (by have := E0.trans eF; (repeat (first | with_reducible exact Ext.refl _ | with_reducible assumption | ((with_reducible refine Ext.setCell ?_ ?_ _); rotate_left; focus (first | (simp; done) | (simp; omega))) | (with_reducible refine Ext.trans ?_ (Ext.alloc _ _)) | (with_reducible refine Ext.trans ?_ (Ext.drew _)) | (with_reducible refine Ext.trans ?_ (by with_reducible assumption)))))
  rw [hb3] at G
  obtain ⟨R, C, e1, e2, hR, hR1, hC, hC1, hxs⟩ := tenB_of hb2
  subst e1 e2
  have hres : res (l, u0) (↑R, ↑C, xs, v1) = ((↑R, outP l C, rowsP l xs C R, ()), true) := by
    unfold res
    rw [if_pos ⟨hb1, hb2, hb3⟩]
    rfl
  rw [hres]
  have hM := plaOk hb1
  obtain ⟨m, hm, hm8⟩ := outP_nat hM hb3
  have hlen := rowsP_len hM hb3 hm hxs
  rw [← hm]
  have C1 := hid (fun i (hi : i < R) W (h : Ext W0 W) => l02Row_any (sp := none) (w.heap.size + 1) 0 R C i xs.length cq q us xs W hi hR1 hC1 hxs hcq (h.cell t1) (h.cell t2) rfl (hp.ext (E0.trans h)) hf)
  have C2 := hid (fun i (hi : i < R) W (h : Ext W0 W) q5 n5 c5 (hr : Rep W (.sl .flt) [.slice q5 n5 c5] (rowT xs C i)) => l09Run_any (sp := none) w.heap.size 0 p q5 l.length c n5 c5 css l (rowT xs C i) W (L.ext (E0.trans h)) hM (h.cell a0) hr (by rw [rowT_len hxs hi]; exact hb3))
  have Hlen := hid hlen
  have Hs := hid (fun r => rowsP_succ l xs C r)
  have Hcur := hid (fun i (hi : i < R) => rowP_out hM hb3 hm hxs hi)
  have Hm0 : l.length = 0 → m = C := by
    intro h
    unfold outP at hm
    rw [if_pos h] at hm
    omega
  have Hm1 : 0 < l.length → ∃ ci, css[l.length - 1]? = some ci ∧ ci[2]? = some (.int .i64 m) := by
    intro h
    obtain ⟨ci, hci, ri⟩ := L.all.get (l.length - 1) (l[l.length - 1]'(by omega)) (by simp)
    unfold outP at hm
    rw [if_neg (by omega)] at hm
    obtain ⟨pw, cw, pb, cb, ps, cz, rfl, _⟩ := stp_cells ri
    refine ⟨_, hci, ?_⟩
    simp [show l.length - 1 < l.length by omega] at hm
    simp [hm]
  have l1 := L.cs; have l3 := L.size; have l5 := hid L.cnt
  have hsm : 0 < l.length → p.isSome = true := fun h => l1.some_of l3 (by decide) (show 0 < css.length by rw [l5.out]; omega)
  have hn6 : l.length ≤ 6 := hM.few
  clear L hM hb1 hb2 hb3 hlen hm hp hf hcq hres h0 h1 hxs hxm
  generalize hn : l.length = n at *
  have HN := hid hn
  clear hn
  generalize xs.length = kk at *
  go_enter Try.func49, Try.ntmps49
  go_wp2_with fail
  rw [← hW0]
  clear hW0
  refine (A.out _ (Ext.refl _)).mono ?_
  rintro e w1 ⟨rfl, e1⟩
  have m0 := e1.cell a0; have m1 := e1.cell t0; have m2 := e1.cell t1; have m3 := e1.cell t2
  go_wp2_with fail
  refine (B.out _ e1).mono ?_
  rintro e w2 ⟨rfl, e2⟩
  have e12 := e1.trans e2
  have i0 := e12.cell a0; have i1 := e12.cell t0; have i2 := e12.cell t1; have i3 := e12.cell t2
  clear m0 m1 m2 m3
  go_wp2_with fail
  refine (G.out _ e12).mono ?_
  rintro e wA ⟨rfl, e3⟩
  have eF := e12.trans e3
  clear A B G i0 i1 i2 i3 e12 e1 e2 e3
  have j0 := eF.cell a0; have j1 := eF.cell t0; have j2 := eF.cell t1; have j3 := eF.cell t2
  have hz2 : w.heap.size + 2 < wA.heap.size := lt_of_cell (eF.cell z0)
  obtain ⟨W5, hW5⟩ : ∃ W5, W5 = (wA.alloc (.cells #[] 106)).alloc (.cells #[.int .i64 R, .int .i64 C, .slice (some ⟨wA.heap.size, 0, none⟩) 0 0] 45) := ⟨_, rfl⟩
  obtain ⟨E5, s5, x0, x1⟩ := box2 hW5
  have hown5 : W5.ownsRow wA.heap.size 106 1 (.slice (some ⟨wA.heap.size, 0, none⟩) 0 0) 0 [] := by
    rw [hW5]; exact own_ext (World.ownsRow_made wA #[] 0 (Nat.le_refl _) (by decide) rfl) (Ext.alloc _ _)
  have y1 := E5.cell j0; have y2 := E5.cell j1; have y3 := E5.cell j2
  have o0 : W5.cell? ⟨wA.heap.size + 1, 0, none⟩ = some (.int .i64 R) := cell_of_heap x1 rfl
  have o1 : W5.cell? ⟨wA.heap.size + 1, 1, none⟩ = some (.int .i64 C) := cell_of_heap x1 rfl
  have o2 := frozen_of_heap x1 (j := 1)
  obtain ⟨E7, _, _, x7⟩ := box2 (w := wA) (A := #[]) (ta := 106) (B := #[.int .i64 R, .int .i64 m, .slice (some ⟨wA.heap.size, 0, none⟩) 0 0]) (tb := 45) rfl
  have hZ : ∃ W6, W6.heap[wA.heap.size + 1]? = some (.cells #[.int .i64 R, .int .i64 m, .slice (some ⟨wA.heap.size, 0, none⟩) 0 0] 45) ∧ W6.ownsRow wA.heap.size 106 1 (.slice (some ⟨wA.heap.size, 0, none⟩) 0 0) 0 [] ∧ Ext wA W6 ∧ W6 = (if n = 0 then W5 else (wA.alloc (.cells #[] 106)).alloc (.cells #[.int .i64 R, .int .i64 m, .slice (some ⟨wA.heap.size, 0, none⟩) 0 0] 45)) := by
    refine ⟨_, ?_, ?_, ?_, rfl⟩
    · by_cases h : n = 0
      · rw [if_pos h, x1, Hm0 h]
      · rw [if_neg h]; exact x7
    · by_cases h : n = 0
      · rw [if_pos h]; exact hown5
      · rw [if_neg h]; exact own_ext (World.ownsRow_made wA #[] 0 (Nat.le_refl _) (by decide) rfl) (Ext.alloc _ _)
    · by_cases h : n = 0
      · rw [if_pos h]; exact E5
      · rw [if_neg h]; exact E7
  obtain ⟨W6, q1, q2, q3, q4⟩ := hZ
  have HB := hid (fun (i : Nat) (_ : i = i) => (rfl : i = i))
  clear hown5
  by_cases hn0 : n = 0
  case' pos =>
    have hgt : decide (0 < (n : Int)) = false := by simp; omega
    have hgt2 : decide (0 < n) = false := by simp; omega
    rw [if_pos hn0] at q4
    rw [hW5] at y1
    clear hn0 Hm0 Hm1 hsm
    go_wp2
    rw [← hW5, ← q4]
  case' neg =>
    have hgt : decide (0 < (n : Int)) = true := by simp; omega
    have hgt2 : decide (0 < n) = true := by simp; omega
    rw [if_neg hn0] at q4
    obtain ⟨ci, hci, hc2⟩ := Hm1 (by omega)
    have hsp := hsm (by omega)
    have l9 := (l1.ext E0).ext eF
    have l8 := l9.ext E5
    have K1 := hid hci
    have K2 := hid hc2
    have qn : IntKind.i64.wrap ((n : Int) - 1) = ((n - 1 : Nat) : Int) := by rw [show (n : Int) - 1 = ((n - 1 : Nat) : Int) by omega]; exact wrap_in _ (by omega) (by omega)
    rw [hW5] at y1 l8 o1 o2
    have hn1 : 1 ≤ n := by omega
    clear hci hc2 hn0 Hm0 Hm1 hsm
    go_wp2_with ((with_reducible show wpList _ _ _ (Oper.mk _ (Op.indexAddr _ _ _) _ _ _ _ :: Oper.mk _ (Op.fieldAddr _ _ _) _ _ _ _ :: _) _ _); refine wl_ldField (f := 2) (off := 2) (j := n - 1) rfl rfl rfl rfl rfl rfl (fun _ => rfl) (fun _ _ => rfl) fo_implPlanStep_2 rfl rfl (by first | exact qn | omega) l8 l3 l5.out (by omega) hsp K1.out K2.out ?_)
    rw [← q4]
  all_goals
    have hW6 : Ext wA W6 := q3
    go_loopw [7] (fun iv wr => ∃ (r : Nat) (v : Value) (vs : List Value), r ≤ R ∧ iv = .int .i64 r ∧ wr.heap[wA.heap.size + 1]? = some (.cells #[.int .i64 R, .int .i64 m, v] 45) ∧ wr.ownsRow wA.heap.size 106 1 v (r * m) vs ∧ Hid (F32s vs (rowsP l xs C r)) ∧ Ext wA wr) (fun iv _ => R - (intOf iv).toNat)
    case atStart => exact ⟨0, .slice (some ⟨wA.heap.size, 0, none⟩) 0 0, [], by omega, rfl, q1, by rw [Nat.zero_mul]; exact q2, F32s.nil, q3⟩
    case round =>
      clear q1 q2 q3 q4 hW6 hW5 x0 x1 x7 y1 y2 y3 o0 o1 o2 E5 E7 s5
      obtain ⟨r, v, vs, hr, rfl, hB, hown, HV, he⟩ := hrel
      obtain ⟨q6, c6, rfl⟩ := own_slice hown
      have j1' := he.cell j1
      by_cases hlt : r < R
      · have hRm : r * m ≤ 128 := Nat.mul_le_mul (show r ≤ 16 by omega) hm8
        have Am := hid (app_row (Hlen.out r hr))
        have hz : wA.heap.size + 1 < wr.heap.size := by
          rcases Nat.lt_or_ge (wA.heap.size + 1) wr.heap.size with h' | h'
          · exact h'
          · simp [Array.getElem?_eq_none h'] at hB
        have eD := eF.trans (he.trans (Ext.drew wr))
        have K1 := hid (fun W (h : Ext wr.drew W) => C1.out r hlt W (eD.trans h))
        have K2 := hid (fun W (h : Ext wr.drew W) => C2.out r hlt W (eD.trans h))
        have hcl := Hcur.out r hlt
        have Hsr := hid (Hs.out r)
        have Hc := hid hcl
        have Hwz := hid (fun W (h : Ext wr.drew W) => show wA.heap.size ≤ W.heap.size by have := h.size; simp at this; omega)
        have o1 : wr.drew.cell? ⟨wA.heap.size + 1, 2, none⟩ = some (.slice q6 (r * m) c6) := (Ext.drew wr).cell (cell_of_heap hB rfl)
        clear C1 C2 Hcur hcl
        obtain ⟨F, hF⟩ : ∃ F : Option Tmp → World → Value → Prop, F = fun d w' u => match d with | some 50 => IsFl wA.heap.size (rowT xs C r) w' u | some 51 => IsFl wA.heap.size (curP l (rowT xs C r) n) w' u | _ => False := ⟨_, rfl⟩
        have HF := hid hF
        clear hF
        go_wp2
        refine wp_region_xt 5 (F := F) (by kernel_rfl) (by kernel_rfl) (by kernel_rfl) (by kernel_rfl) (by kernel_rfl) ?_
        intro wf hwf
        simp only [List.take_succ_cons, List.take_zero, List.drop_succ_cons, List.drop_zero]
        repeat (first
          | (refine x_skip rfl ?_; simp only [Act.put, ev_tmp, List.setIfInBounds_toArray, List.set_cons_succ, List.set_cons_zero, List.getD_cons_succ, List.getD_cons_zero])
          | (refine x_mv rfl rfl rfl ?_; simp only [Act.put, ev_tmp, List.setIfInBounds_toArray, List.set_cons_succ, List.set_cons_zero, List.getD_cons_succ, List.getD_cons_zero])
          | (refine x_as rfl rfl rfl ?_; simp only [Act.put, ev_tmp, List.setIfInBounds_toArray, List.set_cons_succ, List.set_cons_zero, List.getD_cons_succ, List.getD_cons_zero])
          | ((with_reducible show wpX _ _ _ _ _ _ (Oper.mk _ (Op.call _) _ _ _ _ :: _) _); refine x_callf (f := 99) (args := #[.pointer (some ⟨w.heap.size + 1, 0, none⟩), .int .i64 r]) rfl rfl Try.func99 rfl (by kernel_rfl) ?_ ?_ ?_; (focus (simp [Act.eval]; done)); (focus (intro w1 hw1; exact (by rw [HF.out]; exact (K1.out w1 hw1).mono fun e wz h => (h.is).elim fun v h => ⟨v, h.1, h.2.1, show IsFl wA.heap.size (rowT xs C r) wz v from h.2.2.base (Hwz.out w1 hw1)⟩))); rintro u w3 e3 e4 hu; simp only [HF.out] at hu; obtain ⟨q5, c5, vs5, rfl, ho5, hf5⟩ := hu; simp only [Act.put, ev_tmp, List.setIfInBounds_toArray, List.set_cons_succ, List.set_cons_zero, List.getD_cons_succ, List.getD_cons_zero])
          | ((with_reducible show wpX _ _ _ _ _ _ (Oper.mk _ (Op.call _) _ _ _ _ :: _) _); refine x_callK (f := 108) (args := #[.pointer (some ⟨w.heap.size, 0, none⟩), .slice q5 (rowT xs C r).length c5]) rfl rfl Try.func108 rfl (by kernel_rfl) ?_ ?_ ?_; (focus (simp [Act.eval]; done)); (focus (intro w1 hw1 hK; exact (by (obtain ⟨w4, g1, g2, g3⟩ := known_call hK (j := 3) (d := 50) (by kernel_rfl) rfl rfl rfl rfl Try.func99 rfl (by kernel_rfl) (by simp); have g4 : IsFl wA.heap.size (rowT xs C r) w4 (.slice q5 (rowT xs C r).length c5) := (by have := g3; rw [HF.out] at this; exact this); rw [HF.out]; exact (K2.out w1 hw1 q5 _ c5 (IsFl.rep (g4.ext g2))).mono fun e wz h => (h.is).elim fun v h => ⟨v, h.1, h.2.1, show IsFl wA.heap.size (curP l (rowT xs C r) n) wz v from h.2.2.base (Hwz.out w1 hw1)⟩)))); rintro u w3 e3 e4 hu; simp only [HF.out] at hu; have HU := hid (IsFl.ext hu e4); clear hu; simp only [Act.put, ev_tmp, List.setIfInBounds_toArray, List.set_cons_succ, List.set_cons_zero, List.getD_cons_succ, List.getD_cons_zero])
          | (refine x_run rfl fun K hK w1 hw1 => ?_; have k0 := hw1.cell (o1); go_simp; refine hK _ ?_; clear hK K k0 hw1 w1))
        refine x_nil ?_
        obtain ⟨q8, c8, us8, rfl, ho8, hf8⟩ := HU.out
        have hc8 := own_cap ho8
        have hx8 := Hc.out
        generalize hgl : (curP l (rowT xs C r) n).length = m8 at *
        obtain rfl := hx8
        have hp8 := own_Cs ho8
        have eW := (Ext.drew wr).trans hwf
        have hownH := own_ext hown eW
        have hBw : wf.heap[wA.heap.size + 1]? = some (.cells #[.int .i64 R, .int .i64 m8, .slice q6 (r * m8) c6] 45) := by rw [eW.block _ hz]; exact hB
        have hzH : wA.heap.size + 1 < wf.heap.size := Nat.lt_of_lt_of_le hz eW.size
        have hmm := hid (hf8.one)
        have htag := own_tag hownH hBw (by decide)
        have l7 := he.trans eW
        have hwz2 := Hwz.out _ hwf
        clear HU ho8
        go_wp2_with ((with_reducible show wpList _ _ _ (Oper.mk _ (Op.call _) _ _ _ _ :: _) _ _); refine wl_appz rfl rfl rfl rfl hownH hp8 (by rw [Nat.mul_one, hf8.1, hgl]) hc8.1 hmm.out (by unfold maxLen; omega) (by omega) hwz2 ?_; intro v9 w9 own9 g9; obtain ⟨q9, c9, rfl⟩ := own_slice own9; have blk := (g9.block (wA.heap.size + 1) hzH (fun hh => htag _ hh.symm rfl)).trans hBw; have l5' : w9.cell? ⟨wA.heap.size + 1, 2, none⟩ = some (.slice q6 (r * m8) c6) := cell_of_heap blk rfl; have l6 := frozen_of_heap blk (j := 2))
        go_roundw
        case rel =>
          have am := Am.out
          have e9 : Ext wA w9 := l7.grown g9 (fun k hk => own_le hownH k hk)
          have hchg : Chg (fun k => k = wA.heap.size + 1) w9 (w9.setCell ⟨wA.heap.size + 1, 2, none⟩ (.slice q9 (r * m8 + m8) c9)) := by (repeat (first | with_reducible exact Chg.refl _ _ | (with_reducible exact Chg.of_ext (by with_reducible assumption)) | with_reducible assumption | ((with_reducible refine Chg.setCell ?_ ?_ _); rotate_left; focus (first | (simp; done) | (simp; omega))) | (with_reducible refine Chg.alloc ?_ _) | (with_reducible refine Chg.drew ?_) | (with_reducible refine Chg.trans ?_ (Chg.of_ext (by with_reducible assumption)))))
          have hF9 := HV.out.app hf8
          rw [← Hsr.out] at hF9
          have hst := heap_setCell (j := 2) (u := .slice q9 (r * m8 + m8) c9) blk
          refine ⟨r + 1, .slice q9 (r * m8 + m8) c9, vs ++ us8, by omega, by go_num, hst, ?_, hF9, e9.chg hchg (fun k hk => by omega)⟩
          rw [am]
          exact own_chgK own9 hchg (own_tag own9 blk (by decide))
        case measure => simp [intOf]; omega
      · obtain rfl : r = R := by omega
        have eA := eF.trans he
        have n0 := eA.cell z0
        have n1 := eA.cell z1
        have n2 := eA.cell z2
        have n3 := eA.frozen (p := ⟨w.heap.size + 2, 0, none⟩) (by simp; omega) (y0 0)
        have n4 := eA.frozen (p := ⟨w.heap.size + 2, 1, none⟩) (by simp; omega) (y0 1)
        have n5 := eA.frozen (p := ⟨w.heap.size + 2, 2, none⟩) (by simp; omega) (y0 2)
        have k0 : wr.cell? ⟨wA.heap.size + 1, 0, none⟩ = some (.int .i64 r) := cell_of_heap hB rfl
        have k1 : wr.cell? ⟨wA.heap.size + 1, 1, none⟩ = some (.int .i64 m) := cell_of_heap hB rfl
        have k2 : wr.cell? ⟨wA.heap.size + 1, 2, none⟩ = some (.slice q6 (r * m) c6) := cell_of_heap hB rfl
        clear z0 z1 z2 y0 hB
        go_wp2
        refine bodyPost_ret (v := .tuple #[.agg #[.int .i64 r, .int .i64 m, .slice q6 (r * m) c6], .bool true]) (by simp [results, Try.results49, go_sem, n0, n1, n2, n3, n4, n5]) rfl ?_
        exact lRunModel.outT_ten (Hlen.out r (Nat.le_refl _)) (own_base (own_chgB (S := fun k => k = w.heap.size + 2) hown (by (repeat (first | with_reducible exact Chg.refl _ _ | (with_reducible exact Chg.of_ext (by with_reducible assumption)) | with_reducible assumption | ((with_reducible refine Chg.setCell ?_ ?_ _); rotate_left; focus (first | (simp; done) | (simp; omega))) | (with_reducible refine Chg.alloc ?_ _) | (with_reducible refine Chg.drew ?_) | (with_reducible refine Chg.trans ?_ (Chg.of_ext (by with_reducible assumption)))))) (fun k hk => by omega)) (by omega)) HV.out (by decide) rfl (by have := E0.trans eA; (repeat (first | with_reducible exact Ext.refl _ | with_reducible assumption | ((with_reducible refine Ext.setCell ?_ ?_ _); rotate_left; focus (first | (simp; done) | (simp; omega))) | (with_reducible refine Ext.trans ?_ (Ext.alloc _ _)) | (with_reducible refine Ext.trans ?_ (Ext.drew _)) | (with_reducible refine Ext.trans ?_ (by with_reducible assumption)))))
end Go.Proofs.Ytangnigplachdaa.lRunPlanRows
