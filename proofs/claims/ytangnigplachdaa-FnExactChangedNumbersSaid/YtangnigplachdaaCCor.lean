/- CountCorrect. -/
import Derived.Test.YtangnigplachdaaRMod
import Derived.Test.YtangnigplachdaaGrt
import Derived.Test.YtangnigplachdaaKc
namespace Go.Proofs.Ytangnigplachdaa.lCountCorrect
set_option linter.unusedSimpArgs false
set_option linter.unusedVariables false
open Go.RowKit

theorem take_rowsM {l : List shLayer.T} {xs : List Nat} {c R m : Nat} (hM : ModOk l) (hc : (c : Int) = inL l 0) (hm : (m : Int) = outL l) (hx : xs.length = R * c) (r : Nat) : ∀ k, r + k ≤ R → (rowsM l xs c (r + k)).take (r * m) = rowsM l xs c r
  | 0, h => by rw [Nat.add_zero, ← rowsM_len hM hc hm hx r (by omega), List.take_length]
  | k + 1, h => by
    rw [show r + (k + 1) = (r + k) + 1 by omega, rowsM_succ, List.take_append_of_le_length, take_rowsM hM hc hm hx r k (by omega)]
    rw [rowsM_len hM hc hm hx (r + k) (by omega)]
    exact Nat.mul_le_mul_right m (by omega)
theorem rowT_rowsM {l : List shLayer.T} {xs : List Nat} {c R m : Nat} (hM : ModOk l) (hc : (c : Int) = inL l 0) (hm : (m : Int) = outL l) (hx : xs.length = R * c) {i : Nat} (hi : i < R) : rowT (rowsM l xs c R) m i = curF l (rowT xs c i) l.length := by
  have h1 := take_rowsM hM hc hm hx (i + 1) (R - (i + 1)) (by omega)
  rw [show i + 1 + (R - (i + 1)) = R by omega] at h1
  unfold rowT
  rw [h1, rowsM_succ, ← rowsM_len hM hc hm hx i (by omega), List.drop_left]
  rfl
def agr (f g : Nat → Nat) : Nat → Nat
  | 0 => 0
  | r + 1 => agr f g r + if f r = g r then 1 else 0
theorem agr_le (f g : Nat → Nat) : ∀ r, agr f g r ≤ r
  | 0 => Nat.le_refl _
  | r + 1 => by have := agr_le f g r; unfold agr; split <;> omega
def hitF (l : List shLayer.T) (xs : List Nat) (C m r : Nat) : Nat := gi (curF l (rowT xs C r) l.length) m
def hitG (ys : List Nat) (m r : Nat) : Nat := gi (rowT ys m r) m
def okD (d : shModel.T) (x : shExamples.T) : Prop := exaB x.1.1 x.1.2.1 (x.1.2.2.1 : List Nat).length x.2.1.1 x.2.1.2.1 (x.2.1.2.2.1 : List Nat).length = true ∧ modB d.1 = true ∧ x.1.2.1 = inL d.1 0 ∧ x.2.1.2.1 = outL d.1
instance (d : shModel.T) (x : shExamples.T) : Decidable (okD d x) := by unfold okD; infer_instance
def res (d : shModel.T) (x : shExamples.T) : Int × Bool :=
  if okD d x then ((agr (hitF d.1 x.1.2.2.1 x.1.2.1.toNat (outL d.1).toNat) (hitG x.2.1.2.2.1 (outL d.1).toNat) x.1.1.toNat : Nat), true) else (0, false)
def Got (w : World) (r : Int × Bool) (e : Ending) (w' : World) : Prop := e = .returned (.tuple #[.int .i64 r.1, .bool r.2]) ∧ Ext w w'
theorem res_no {d : shModel.T} {x : shExamples.T} (h : ¬ okD d x) : res d x = (0, false) := by unfold res; rw [if_neg h]
theorem cs_cell {w : World} {g : Nat} {cs : List Value} (h : Cs w (some ⟨g, 0, none⟩) cs) (j : Nat) {v : Value} (hv : cs[j]? = some v) : w.cell? ⟨g, j, none⟩ = some v := by have := h.cell j v hv; rwa [adr_row] at this
theorem beq_nat {a b : Nat} : (((a : Nat) : Int) == (b : Int)) = decide (a = b) := by
  by_cases h : a = b
  · subst h; simp
  · simp [h]; omega
set_option maxRecDepth 100000 in
set_option maxHeartbeats 4000000 in
theorem impl_ok (cs0 : List Value) (D0 : shModel.T) (cs1 : List Value) (D1 : shExamples.T) (w : World) (h0 : Rep w shModel cs0 D0) (h1 : Rep w shExamples cs1 D1) (f0 : Fit shModel D0) (f1 : Fit shExamples D1) : Calls Try.prog 36 #[ofCs shModel cs0, ofCs shExamples cs1] w (Got w (res D0 D1)) := by
  have K := hid (fun W (h : Ext w W) cs (r : Rep W shTensor cs D1.1) => lRunModel.impl_ok cs0 D0 cs D1.1 W (h0.ext h) r f0 f1.1)
  obtain ⟨L0, u0⟩ := D0
  obtain ⟨c0, c1, rfl, k0, rfl⟩ := h0
  obtain ⟨p, c, rfl, _⟩ := rep_val k0
  obtain ⟨D10, D11, D12⟩ := D1
  obtain ⟨ca, cr, rfl, ra, cb, cu, rfl, rb, rfl⟩ := h1
  have ra0 := ra
  obtain ⟨q, cq, us, rfl, hp, hf, hcq, hcm⟩ := ten_vals ra
  obtain ⟨q', cq', us', rfl, hp', hf', hcq', hcm'⟩ := ten_vals rb
  obtain ⟨r1, k1, xs, v1⟩ := D10
  obtain ⟨r2, k2, ys, v2⟩ := D11
  dsimp only at hp hf hcq hcm hp' hf' hcq' hcm' ra0 ⊢
  simp only [ofCs, Sh.agg, if_true, List.append_nil, List.cons_append, List.nil_append]
  have hxm : xs.length ≤ maxLen := Nat.le_trans hcq hcm
  have hym : ys.length ≤ maxLen := Nat.le_trans hcq' hcm'
  obtain ⟨W0, hW0⟩ : ∃ W0, W0 = (w.alloc (.cells #[.slice p L0.length c] 32)).alloc (.cells #[.int .i64 r1, .int .i64 k1, .slice q xs.length cq, .int .i64 r2, .int .i64 k2, .slice q' ys.length cq'] 58) := ⟨_, rfl⟩
  obtain ⟨E0, s0, b0, b1⟩ := box2 hW0
  have a0 : W0.cell? ⟨w.heap.size, 0, none⟩ = some (.slice p L0.length c) := cell_of_heap b0 rfl
  have t0 : W0.cell? ⟨w.heap.size + 1, 0, none⟩ = some (.int .i64 r1) := cell_of_heap b1 rfl
  have t1 : W0.cell? ⟨w.heap.size + 1, 1, none⟩ = some (.int .i64 k1) := cell_of_heap b1 rfl
  have t2 : W0.cell? ⟨w.heap.size + 1, 2, none⟩ = some (.slice q xs.length cq) := cell_of_heap b1 rfl
  have t3 : W0.cell? ⟨w.heap.size + 1, 3, none⟩ = some (.int .i64 r2) := cell_of_heap b1 rfl
  have t4 : W0.cell? ⟨w.heap.size + 1, 4, none⟩ = some (.int .i64 k2) := cell_of_heap b1 rfl
  have t5 : W0.cell? ⟨w.heap.size + 1, 5, none⟩ = some (.slice q' ys.length cq') := cell_of_heap b1 rfl
  clear b0 b1
  have A := hid (ValidExamples_any r1 k1 q xs.length cq r2 k2 q' ys.length cq' W0 hxm hym)
  cases hE : exaB r1 k1 xs.length r2 k2 ys.length
  · rw [res_no (fun h => by have := h.1; dsimp only at this; rw [hE] at this; cases this)]
    rw [hE] at A
    clear K ra0 ra rb hp hf hp' hf' hcq hcm hcq' hcm'
    generalize xs.length = n1 at *
    generalize ys.length = n2 at *
    go_enter Try.func36, Try.ntmps36
    go_wp2_with fail
    rw [← hW0]
    clear hW0
    refine A.out.mono ?_
    rintro e w1 ⟨rfl, e1⟩
    go_wp2
    go_ret2
    exact ⟨rfl, E0.trans e1⟩
  · rw [hE] at A
    have hE2 := hE
    unfold exaB at hE2
    simp only [Bool.and_eq_true, decide_eq_true_eq] at hE2
    obtain ⟨hT1, hT2, hrr⟩ := hE2
    obtain ⟨R, C, e1, e2, hR, hR1, hC, hC1, hn1⟩ := tenB_of hT1
    obtain ⟨R', M, e3, e4, hR', hR1', hM1, hM16, hn2⟩ := tenB_of hT2
    subst e1 e2 e3 e4
    obtain rfl : R = R' := by omega
    clear hR' hR1' hrr
    simp only [lRunModel.res] at K
    by_cases hc : modB L0 = true ∧ (C : Int) = inL L0 0
    · obtain ⟨hB, hI⟩ := hc
      rw [if_pos (⟨hB, hT1, hI⟩ : _ ∧ _ ∧ _)] at K
      have hM := modOk hB
      obtain ⟨m, hm, hm1, hm8⟩ := outL_nat hM
      have hzl := rowsM_len hM hI hm hn1 R (Nat.le_refl _)
      by_cases hO : (M : Int) = outL L0
      · have hres : res (L0, u0) ((↑R, ↑C, xs, v1), (↑R, ↑M, ys, v2), D12) = (((agr (hitF L0 xs C m) (hitG ys m) R : Nat) : Int), true) := by
          unfold res
          rw [if_pos ⟨hE, hB, hI, hO⟩]
          simp [← hm]
        rw [hres]
        obtain rfl : M = m := by omega
        have Hf := hid (fun i (hi : i < R) => show gi (rowT (rowsM L0 xs C R) M i) M = hitF L0 xs C M i by unfold hitF; rw [rowT_rowsM hM hI hm hn1 hi])
        have Hg := hid (fun i (_ : i < R) => show gi (rowT ys M i) M = hitG ys M i from rfl)
        simp only [Int.toNat_natCast, ← hm] at K
        generalize hitF L0 xs C M = f at *
        generalize hitG ys M = g at *
        generalize rowsM L0 xs C R = zs at *
        have K1 := hid (fun W (h : Ext w W) => K.out W h _ (ra0.ext h))
        simp only [ofCs, Sh.agg, if_true] at K1
        have hag := agr_le f g
        have h1f := hid (fun i (hi : i < R) => rowT_len (i := i) hzl hi)
        have h1g := hid (fun i (hi : i < R) => rowT_len (i := i) hn2 hi)
        have HN2 := hid hn2
        have HZL := hid hzl
        clear hn2 hzl
        clear K ra0 ra rb hp hf hcq hcm hM hI hB hm hres hE hT1 hT2 hn1 f0 f1 hO
        generalize xs.length = n1 at *
        generalize hy : ys.length = n2 at *
        have HY := hid hy
        clear hy
        go_enter Try.func36, Try.ntmps36
        go_wp2_with fail
        rw [← hW0]
        clear hW0
        refine A.out.mono ?_
        rintro e w1 ⟨rfl, e1⟩
        have m0 := e1.cell a0; have m1 := e1.cell t0; have m2 := e1.cell t1; have m3 := e1.cell t2; have m4 := e1.cell t3; have m5 := e1.cell t4; have m6 := e1.cell t5
        have E1 := E0.trans e1
        clear a0 t0 t1 t2 t3 t4 t5 A
        go_wp2_with fail
        refine (K1.out _ E1).mono ?_
        rintro e w2 ⟨cs2, bs2, rfl, own2, _, _, _, e2⟩
        obtain ⟨q2, c2, vs2, rfl, hp2, hf2, hc2, hcm2⟩ := ten_vals own2.rep
        have one2 := own2.rep.one
        dsimp only at hp2 hf2 hc2 hcm2 one2
        generalize hz : zs.length = n3 at *
        have HZ := hid hz
        clear hz own2
        go_wp2_with ((with_reducible show wpList _ _ _ (Oper.mk _ (Op.store _ _ _) _ _ _ _ :: _) _ _); refine wl_stA (s := shTensor) (cs := [.int .i64 R, .int .i64 M, .slice q2 n3 c2]) rfl rfl rfl rfl (heap_alloc_new _ _) rfl rfl one2 (by decide) ?_; intro w5 c5 ch5; have E5 : Ext w2 w5 := (Ext.alloc _ _).chg ch5 (fun b hb => by subst hb; exact Nat.le_refl _); clear ch5; have g0 := cs_cell c5 0 rfl; have g1 := cs_cell c5 1 rfl; have g2 := cs_cell c5 2 rfl; have j0 := (e2.trans E5).cell m0; have j1 := (e2.trans E5).cell m1; have j2 := (e2.trans E5).cell m2; have j3 := (e2.trans E5).cell m3; have j4 := (e2.trans E5).cell m4; have j5 := (e2.trans E5).cell m5; have j6 := (e2.trans E5).cell m6; clear m0 m1 m2 m3 m4 m5 m6)
        have EW := E1.trans (e2.trans E5)
        go_loopw [8, 32] (fun nv iv wr => ∃ (r : Nat), r ≤ R ∧ iv = .int .i64 r ∧ nv = .int .i64 (agr f g r : Nat) ∧ Ext w5 wr) (fun _ iv _ => R - (intOf iv).toNat)
        case atStart => exact ⟨0, by omega, rfl, rfl, Ext.refl _⟩
        case round =>
          obtain ⟨r, hr, rfl, rfl, he⟩ := hrel
          have hgr := hag r
          by_cases hlt : r < R
          · have eD := he.trans (Ext.drew wr)
            have l0 := eD.cell g0; have l1 := eD.cell g1; have l2 := eD.cell g2
            have d1 := eD.cell j1; have d2 := eD.cell j2; have d3 := eD.cell j3; have d4 := eD.cell j4; have d5 := eD.cell j5; have d6 := eD.cell j6
            obtain ⟨k1, k2, k3, k4⟩ := cell_le (C := M) hlt hR1 (by omega)
            have B1 := hid (fun W => row_any R M r n3 c2 q2 W hlt hR1 (by omega) HZL.out hc2)
            have B2 := hid (fun W => row_any R M r n2 cq' q' W hlt hR1 (by omega) HN2.out hcq')
            have hn2 := HN2.out
            have hzl := HZL.out
            have G1 := hid (fun W (h : Ext wr.drew W) => greatestOf_any (subp q2 1 (r * M) c2) M (c2 - r * M) _ (rowT zs M r) W (h1f.out r hlt) hM1 (by unfold maxLen; omega) ((row_cs hp2 (by omega)).ext (E5.trans (eD.trans h))) (hf2.part _ _))
            have G2 := hid (fun W (h : Ext wr.drew W) => greatestOf_any (subp q' 1 (r * M) cq') M (cq' - r * M) _ (rowT ys M r) W (h1g.out r hlt) hM1 (by unfold maxLen; omega) ((row_cs hp' (by omega)).ext (EW.trans (eD.trans h))) (hf'.part _ _))
            clear hn2 hzl
            rw [Hf.out r hlt] at G1
            rw [Hg.out r hlt] at G2
            have hs : agr f g (r + 1) = agr f g r + if f r = g r then 1 else 0 := rfl
            have HS := hid hs
            clear hs
            generalize f r = fr at *
            generalize g r = gr at *
            generalize r * M = rM at *
            obtain ⟨F, hF⟩ : ∃ F : Option Tmp → World → Value → Prop, F = fun d _ u => match d with | some 37 => u = .slice (subp q2 1 rM c2) M (c2 - rM) | some 38 => u = .int .i64 fr | some 42 => u = .slice (subp q' 1 rM cq') M (cq' - rM) | some 43 => u = .int .i64 gr | _ => False := ⟨_, rfl⟩
            have HF := hid hF
            clear hF
            by_cases hq : fr = gr
            all_goals
              first
                | (have hqq := beq_t (show (fr : Int) = (gr : Int) by omega))
                | (have hqq := beq_f (show ¬ (fr : Int) = (gr : Int) by omega))
              go_wp2
              refine wp_region_xall (F := F) (by kernel_rfl) (by kernel_rfl) (by kernel_rfl) ?_
              intro wf hwf
              repeat (first
                | (refine x_skip rfl ?_; simp only [Act.put, ev_tmp, List.setIfInBounds_toArray, List.set_cons_succ, List.set_cons_zero, List.getD_cons_succ, List.getD_cons_zero])
                | (refine x_mv rfl rfl rfl ?_; simp only [Act.put, ev_tmp, List.setIfInBounds_toArray, List.set_cons_succ, List.set_cons_zero, List.getD_cons_succ, List.getD_cons_zero])
                | (refine x_as rfl rfl rfl ?_; simp only [Act.put, ev_tmp, List.setIfInBounds_toArray, List.set_cons_succ, List.set_cons_zero, List.getD_cons_succ, List.getD_cons_zero])
                | ((with_reducible show wpX _ _ _ _ _ _ (Oper.mk _ (Op.call _) _ _ _ _ :: _) _); refine x_callf (f := 102) (args := #[.agg #[.int .i64 R, .int .i64 M, .slice q2 n3 c2], .int .i64 r]) rfl rfl Try.func102 rfl (by kernel_rfl) ?_ ?_ ?_; (focus (simp [Act.eval]; done)); (focus (intro w1 hw1; exact (by rw [HF.out]; exact (B1.out w1).mono fun e w3 h => ⟨_, h.1, h.2, rfl⟩))); rintro u w3 e3 e4 hu; simp only [HF.out] at hu; subst hu; simp only [Act.put, ev_tmp, List.setIfInBounds_toArray, List.set_cons_succ, List.set_cons_zero, List.getD_cons_succ, List.getD_cons_zero])
                | ((with_reducible show wpX _ _ _ _ _ _ (Oper.mk _ (Op.call _) _ _ _ _ :: _) _); refine x_callf (f := 102) (args := #[.agg #[.int .i64 R, .int .i64 M, .slice q' n2 cq'], .int .i64 r]) rfl rfl Try.func102 rfl (by kernel_rfl) ?_ ?_ ?_; (focus (simp [Act.eval]; done)); (focus (intro w1 hw1; exact (by rw [HF.out]; exact (B2.out w1).mono fun e w3 h => ⟨_, h.1, h.2, rfl⟩))); rintro u w3 e3 e4 hu; simp only [HF.out] at hu; subst hu; simp only [Act.put, ev_tmp, List.setIfInBounds_toArray, List.set_cons_succ, List.set_cons_zero, List.getD_cons_succ, List.getD_cons_zero])
                | ((with_reducible show wpX _ _ _ _ _ _ (Oper.mk _ (Op.call _) _ _ _ _ :: _) _); refine x_callf (f := 101) (args := #[.slice (subp q2 1 rM c2) M (c2 - rM)]) rfl rfl Try.func101 rfl (by kernel_rfl) ?_ ?_ ?_; (focus (simp [Act.eval]; done)); (focus (intro w1 hw1; exact (by rw [HF.out]; exact (G1.out w1 hw1).mono fun e w3 h => ⟨_, h.1, h.2, rfl⟩))); rintro u w3 e3 e4 hu; simp only [HF.out] at hu; subst hu; simp only [Act.put, ev_tmp, List.setIfInBounds_toArray, List.set_cons_succ, List.set_cons_zero, List.getD_cons_succ, List.getD_cons_zero])
                | ((with_reducible show wpX _ _ _ _ _ _ (Oper.mk _ (Op.call _) _ _ _ _ :: _) _); refine x_callf (f := 101) (args := #[.slice (subp q' 1 rM cq') M (cq' - rM)]) rfl rfl Try.func101 rfl (by kernel_rfl) ?_ ?_ ?_; (focus (simp [Act.eval]; done)); (focus (intro w1 hw1; exact (by rw [HF.out]; exact (G2.out w1 hw1).mono fun e w3 h => ⟨_, h.1, h.2, rfl⟩))); rintro u w3 e3 e4 hu; simp only [HF.out] at hu; subst hu; simp only [Act.put, ev_tmp, List.setIfInBounds_toArray, List.set_cons_succ, List.set_cons_zero, List.getD_cons_succ, List.getD_cons_zero])
                | (refine x_run rfl fun K hK w1 hw1 => ?_; have k0 := hw1.cell (l0); have k1 := hw1.cell (l1); have k2 := hw1.cell (l2); have k3 := hw1.cell (d1); have k4 := hw1.cell (d2); have k5 := hw1.cell (d3); have k6 := hw1.cell (d4); have k7 := hw1.cell (d5); have k8 := hw1.cell (d6); go_simp; refine hK _ ?_; clear hK K k0 k1 k2 k3 k4 k5 k6 k7 k8 hw1 w1))
              refine x_nil ?_
              have eZ := eD.trans hwf
              go_wp2
              go_roundw
              all_goals first
                | exact ⟨r + 1, by omega, by go_num, by rw [HS.out, if_pos hq]; go_num, eZ⟩
                | exact ⟨r + 1, by omega, by go_num, by rw [HS.out, if_neg hq]; rfl, eZ⟩
                | (simp [intOf]; omega)
          · obtain rfl : r = R := by omega
            go_wp2
            go_ret2
            exact ⟨rfl, EW.trans he⟩
      · rw [res_no (fun h => hO h.2.2.2)]
        simp only [Int.toNat_natCast] at K
        have hO2 := bne_t (fun h => hO h.symm)
        generalize rowsM L0 xs C R = zs at *
        have K1 := hid (fun W (h : Ext w W) => K.out W h _ (ra0.ext h))
        simp only [ofCs, Sh.agg, if_true] at K1
        clear K ra0 ra rb hp hf hcq hcm hM hI hB hm hE hT1 hT2 hn1 f0 f1 hO hn2 hzl
        generalize outL L0 = oL at *
        generalize xs.length = n1 at *
        generalize ys.length = n2 at *
        go_enter Try.func36, Try.ntmps36
        go_wp2_with fail
        rw [← hW0]
        clear hW0
        refine A.out.mono ?_
        rintro e w1 ⟨rfl, e1⟩
        have m0 := e1.cell a0; have m1 := e1.cell t0; have m2 := e1.cell t1; have m3 := e1.cell t2; have m4 := e1.cell t3; have m5 := e1.cell t4; have m6 := e1.cell t5
        have E1 := E0.trans e1
        clear a0 t0 t1 t2 t3 t4 t5 A
        go_wp2_with fail
        refine (K1.out _ E1).mono ?_
        rintro e w2 ⟨cs2, bs2, rfl, own2, _, _, _, e2⟩
        obtain ⟨q2, c2, vs2, rfl, hp2, hf2, hc2, hcm2⟩ := ten_vals own2.rep
        have one2 := own2.rep.one
        dsimp only at hp2 hf2 hc2 hcm2 one2
        generalize zs.length = n3 at *
        clear own2
        go_wp2_with ((with_reducible show wpList _ _ _ (Oper.mk _ (Op.store _ _ _) _ _ _ _ :: _) _ _); refine wl_stA (s := shTensor) (cs := [.int .i64 R, .int .i64 oL, .slice q2 n3 c2]) rfl rfl rfl rfl (heap_alloc_new _ _) rfl rfl one2 (by decide) ?_; intro w5 c5 ch5; have E5 : Ext w2 w5 := (Ext.alloc _ _).chg ch5 (fun b hb => by subst hb; exact Nat.le_refl _); clear ch5; have g0 := cs_cell c5 0 rfl; have g1 := cs_cell c5 1 rfl; have g2 := cs_cell c5 2 rfl; have j4 := (e2.trans E5).cell m4; have j5 := (e2.trans E5).cell m5)
        go_ret2
        exact ⟨rfl, E1.trans (e2.trans E5)⟩
    · rw [if_neg (fun h => hc ⟨h.1, h.2.2⟩)] at K
      rw [res_no (fun h => hc ⟨h.2.1, h.2.2.1⟩)]
      have K1 := hid (fun W (h : Ext w W) => K.out W h _ (ra0.ext h))
      simp only [ofCs, Sh.agg, if_true] at K1
      clear K ra0 ra rb hp hf hcq hcm hE hT1 hT2 hn1 f0 f1 hc hn2
      generalize xs.length = n1 at *
      generalize ys.length = n2 at *
      go_enter Try.func36, Try.ntmps36
      go_wp2_with fail
      rw [← hW0]
      clear hW0
      refine A.out.mono ?_
      rintro e w1 ⟨rfl, e1⟩
      have m0 := e1.cell a0; have m1 := e1.cell t0; have m2 := e1.cell t1; have m3 := e1.cell t2; have m4 := e1.cell t3; have m5 := e1.cell t4; have m6 := e1.cell t5
      have E1 := E0.trans e1
      clear a0 t0 t1 t2 t3 t4 t5 A
      go_wp2_with fail
      refine (K1.out _ E1).mono ?_
      rintro e w2 ⟨cs2, bs2, rfl, own2, _, _, _, e2⟩
      obtain ⟨q2, c2, vs2, rfl, hp2, hf2, hc2, hcm2⟩ := ten_vals own2.rep
      have one2 := own2.rep.one
      dsimp only at hp2 hf2 hc2 hcm2 one2
      clear own2
      go_wp2_with ((with_reducible show wpList _ _ _ (Oper.mk _ (Op.store _ _ _) _ _ _ _ :: _) _ _); refine wl_stA (s := shTensor) (cs := [.int .i64 0, .int .i64 0, .slice q2 0 c2]) rfl rfl rfl rfl (heap_alloc_new _ _) rfl rfl one2 (by decide) ?_; intro w5 c5 ch5; have E5 : Ext w2 w5 := (Ext.alloc _ _).chg ch5 (fun b hb => by subst hb; exact Nat.le_refl _); clear ch5)
      go_ret2
      exact ⟨rfl, E1.trans (e2.trans E5)⟩
set_option maxRecDepth 100000 in
set_option maxHeartbeats 4000000 in
theorem spec_ok (cs0 : List Value) (D0 : shModel.T) (cs1 : List Value) (D1 : shExamples.T) (w : World) (h0 : Rep w shModel cs0 D0) (h1 : Rep w shExamples cs1 D1) (f0 : Fit shModel D0) (_ : Fit shExamples D1) : Calls Try.prog 34 #[ofCs shModel cs0, ofCs shExamples cs1] w (Got w (res D0 D1)) := by
  obtain ⟨L0, u0⟩ := D0
  obtain ⟨c0, c1, rfl, k0, rfl⟩ := h0
  obtain ⟨p, c, rfl, _⟩ := rep_val k0
  obtain ⟨p', c', css, he0, L⟩ := lays_of k0 f0.1
  cases he0
  obtain ⟨D10, D11, D12⟩ := D1
  obtain ⟨ca, cr, rfl, ra, cb, cu, rfl, rb, rfl⟩ := h1
  obtain ⟨q, cq, us, rfl, hp, hf, hcq, hcm⟩ := ten_vals ra
  obtain ⟨q', cq', us', rfl, hp', hf', hcq', hcm'⟩ := ten_vals rb
  obtain ⟨r1, k1, xs, v1⟩ := D10
  obtain ⟨r2, k2, ys, v2⟩ := D11
  dsimp only at hp hf hcq hcm hp' hf' hcq' hcm' ⊢
  simp only [ofCs, Sh.agg, if_true, List.append_nil, List.cons_append, List.nil_append]
  have hxm : xs.length ≤ maxLen := Nat.le_trans hcq hcm
  have hym : ys.length ≤ maxLen := Nat.le_trans hcq' hcm'
  obtain ⟨W0, hW0⟩ : ∃ W0, W0 = (w.alloc (.cells #[.slice p L0.length c] 32)).alloc (.cells #[.int .i64 r1, .int .i64 k1, .slice q xs.length cq, .int .i64 r2, .int .i64 k2, .slice q' ys.length cq'] 58) := ⟨_, rfl⟩
  obtain ⟨E0, s0, b0, b1⟩ := box2 hW0
  have a0 : W0.cell? ⟨w.heap.size, 0, none⟩ = some (.slice p L0.length c) := cell_of_heap b0 rfl
  have t0 : W0.cell? ⟨w.heap.size + 1, 0, none⟩ = some (.int .i64 r1) := cell_of_heap b1 rfl
  have t1 : W0.cell? ⟨w.heap.size + 1, 1, none⟩ = some (.int .i64 k1) := cell_of_heap b1 rfl
  have t2 : W0.cell? ⟨w.heap.size + 1, 2, none⟩ = some (.slice q xs.length cq) := cell_of_heap b1 rfl
  have t3 : W0.cell? ⟨w.heap.size + 1, 3, none⟩ = some (.int .i64 r2) := cell_of_heap b1 rfl
  have t4 : W0.cell? ⟨w.heap.size + 1, 4, none⟩ = some (.int .i64 k2) := cell_of_heap b1 rfl
  have t5 : W0.cell? ⟨w.heap.size + 1, 5, none⟩ = some (.slice q' ys.length cq') := cell_of_heap b1 rfl
  clear b0 b1
  have A := hid (fun W (h : Ext W0 W) => l03Is_any (sp := none) w.heap.size 0 p L0.length c L0 css W (h.cell a0) L.len L.le (L.cs.ext (E0.trans h)) (L.all.imp fun _ _ => Rep.ext (E0.trans h)) L.size L.cnt)
  have B := hid (fun W (h : Ext W0 W) => l07Data_any (w.heap.size + 1) 0 r1 k1 q xs.length cq r2 k2 q' ys.length cq' W (h.cell t0) (h.cell t1) (h.cell t2) (h.cell t3) (h.cell t4) (h.cell t5) hxm hym)
  clear ra rb k0
  cases hb1 : modB L0
  · rw [res_no (fun h => by have := h.2.1; dsimp only at this; rw [hb1] at this; cases this)]
    rw [hb1] at A
    clear L hp hf hp' hf' hcq hcm hcq' hcm' hxm hym f0 hb1
    generalize L0.length = n0 at *
    generalize xs.length = n1 at *
    generalize ys.length = n2 at *
    obtain ⟨F, hF⟩ : ∃ F : Option Tmp → World → Value → Prop, F = fun d _ u => match d with | some 8 => u = .bool false | some 11 => u = .bool false | some 18 => u = .int .i64 0 | some 25 => u = .int .i64 0 | _ => False := ⟨_, rfl⟩
    have HF := hid hF
    clear hF
    go_enter Try.func34, Try.ntmps34
    go_wp2
    rw [← hW0]
    clear hW0
    have eD := Ext.drew W0
    have d0 := eD.cell a0; have d1 := eD.cell t0; have d2 := eD.cell t1; have d3 := eD.cell t2; have d4 := eD.cell t3; have d5 := eD.cell t4; have d6 := eD.cell t5
    refine wp_region_xall (F := F) (by kernel_rfl) (by kernel_rfl) (by kernel_rfl) ?_
    intro wf hwf
    repeat (first
      | (refine x_skip rfl ?_; simp only [Act.put, ev_tmp, List.setIfInBounds_toArray, List.set_cons_succ, List.set_cons_zero, List.getD_cons_succ, List.getD_cons_zero])
      | (refine x_mv rfl rfl rfl ?_; simp only [Act.put, ev_tmp, List.setIfInBounds_toArray, List.set_cons_succ, List.set_cons_zero, List.getD_cons_succ, List.getD_cons_zero])
      | (refine x_as rfl rfl rfl ?_; simp only [Act.put, ev_tmp, List.setIfInBounds_toArray, List.set_cons_succ, List.set_cons_zero, List.getD_cons_succ, List.getD_cons_zero])
      | ((with_reducible show wpX _ _ _ _ _ _ (Oper.mk _ (Op.call _) _ _ _ _ :: _) _); refine x_callf (f := 79) (args := #[.pointer (some ⟨w.heap.size, 0, none⟩)]) rfl rfl Try.func79 rfl (by kernel_rfl) ?_ ?_ ?_; (focus (simp [Act.eval]; done)); (focus (intro w1 hw1; exact (by rw [HF.out]; exact (A.out w1 (eD.trans hw1)).mono fun e w3 h => ⟨_, h.1, h.2, rfl⟩))); rintro u w3 e3 e4 hu; simp only [HF.out] at hu; subst hu; simp only [Act.put, ev_tmp, List.setIfInBounds_toArray, List.set_cons_succ, List.set_cons_zero, List.getD_cons_succ, List.getD_cons_zero])
      | (refine x_run rfl fun K hK w1 hw1 => ?_; have k0 := hw1.cell (d0); have k1 := hw1.cell (d1); have k2 := hw1.cell (d2); have k3 := hw1.cell (d3); have k4 := hw1.cell (d4); have k5 := hw1.cell (d5); have k6 := hw1.cell (d6); go_simp; refine hK _ ?_; clear hK K k0 k1 k2 k3 k4 k5 k6 hw1 w1))
    refine x_nil ?_
    have eF := eD.trans hwf
    go_wp2
    go_ret2
    exact ⟨rfl, E0.trans eF⟩
  rw [hb1] at A
  cases hb2 : exaB r1 k1 xs.length r2 k2 ys.length
  · rw [res_no (fun h => by have := h.1; dsimp only at this; rw [hb2] at this; cases this)]
    rw [hb2] at B
    clear L hp hf hp' hf' hcq hcm hcq' hcm' hxm hym f0 hb1 hb2
    generalize L0.length = n0 at *
    generalize xs.length = n1 at *
    generalize ys.length = n2 at *
    obtain ⟨F, hF⟩ : ∃ F : Option Tmp → World → Value → Prop, F = fun d _ u => match d with | some 8 => u = .bool true | some 11 => u = .bool false | some 18 => u = .int .i64 0 | some 25 => u = .int .i64 0 | _ => False := ⟨_, rfl⟩
    have HF := hid hF
    clear hF
    go_enter Try.func34, Try.ntmps34
    go_wp2
    rw [← hW0]
    clear hW0
    have eD := Ext.drew W0
    have d0 := eD.cell a0; have d1 := eD.cell t0; have d2 := eD.cell t1; have d3 := eD.cell t2; have d4 := eD.cell t3; have d5 := eD.cell t4; have d6 := eD.cell t5
    refine wp_region_xall (F := F) (by kernel_rfl) (by kernel_rfl) (by kernel_rfl) ?_
    intro wf hwf
    repeat (first
      | (refine x_skip rfl ?_; simp only [Act.put, ev_tmp, List.setIfInBounds_toArray, List.set_cons_succ, List.set_cons_zero, List.getD_cons_succ, List.getD_cons_zero])
      | (refine x_mv rfl rfl rfl ?_; simp only [Act.put, ev_tmp, List.setIfInBounds_toArray, List.set_cons_succ, List.set_cons_zero, List.getD_cons_succ, List.getD_cons_zero])
      | (refine x_as rfl rfl rfl ?_; simp only [Act.put, ev_tmp, List.setIfInBounds_toArray, List.set_cons_succ, List.set_cons_zero, List.getD_cons_succ, List.getD_cons_zero])
      | ((with_reducible show wpX _ _ _ _ _ _ (Oper.mk _ (Op.call _) _ _ _ _ :: _) _); refine x_callf (f := 79) (args := #[.pointer (some ⟨w.heap.size, 0, none⟩)]) rfl rfl Try.func79 rfl (by kernel_rfl) ?_ ?_ ?_; (focus (simp [Act.eval]; done)); (focus (intro w1 hw1; exact (by rw [HF.out]; exact (A.out w1 (eD.trans hw1)).mono fun e w3 h => ⟨_, h.1, h.2, rfl⟩))); rintro u w3 e3 e4 hu; simp only [HF.out] at hu; subst hu; simp only [Act.put, ev_tmp, List.setIfInBounds_toArray, List.set_cons_succ, List.set_cons_zero, List.getD_cons_succ, List.getD_cons_zero])
      | ((with_reducible show wpX _ _ _ _ _ _ (Oper.mk _ (Op.call _) _ _ _ _ :: _) _); refine x_callf (f := 95) (args := #[.pointer (some ⟨w.heap.size + 1, 0, none⟩)]) rfl rfl Try.func95 rfl (by kernel_rfl) ?_ ?_ ?_; (focus (simp [Act.eval]; done)); (focus (intro w1 hw1; exact (by rw [HF.out]; exact (B.out w1 (eD.trans hw1)).mono fun e w3 h => ⟨_, h.1, h.2, rfl⟩))); rintro u w3 e3 e4 hu; simp only [HF.out] at hu; subst hu; simp only [Act.put, ev_tmp, List.setIfInBounds_toArray, List.set_cons_succ, List.set_cons_zero, List.getD_cons_succ, List.getD_cons_zero])
      | (refine x_run rfl fun K hK w1 hw1 => ?_; have k0 := hw1.cell (d0); have k1 := hw1.cell (d1); have k2 := hw1.cell (d2); have k3 := hw1.cell (d3); have k4 := hw1.cell (d4); have k5 := hw1.cell (d5); have k6 := hw1.cell (d6); go_simp; refine hK _ ?_; clear hK K k0 k1 k2 k3 k4 k5 k6 hw1 w1))
    refine x_nil ?_
    have eF := eD.trans hwf
    go_wp2
    go_ret2
    exact ⟨rfl, E0.trans eF⟩
  rw [hb2] at B
  have hM := modOk hb1
  have hps := hM.pos
  have D := hid (fun W (h : Ext W0 W) => l03In_any (sp := none) w.heap.size 0 p L0.length c css L0 W (L.ext (E0.trans h)) hps (h.cell a0))
  have E := hid (fun W (h : Ext W0 W) => l03Out_any (sp := none) w.heap.size 0 p L0.length c css L0 W (L.ext (E0.trans h)) hps (h.cell a0))
  by_cases hI : k1 = inL L0 0
  · by_cases hO : k2 = outL L0
    · have hE2 := hb2
      unfold exaB at hE2
      simp only [Bool.and_eq_true, decide_eq_true_eq] at hE2
      obtain ⟨hT1, hT2, hrr⟩ := hE2
      obtain ⟨R, C, e1, e2, hR, hR1, hC, hC1, hn1⟩ := tenB_of hT1
      obtain ⟨R', M, e3, e4, hR', hR1', hM1, hM16, hn2⟩ := tenB_of hT2
      subst e1 e2 e3 e4
      obtain rfl : R = R' := by omega
      clear hR' hR1' hrr
      obtain ⟨m, hm, hm1, hm8⟩ := outL_nat hM
      have hres : res (L0, u0) ((↑R, ↑C, xs, v1), (↑R, ↑M, ys, v2), D12) = (((agr (hitF L0 xs C m) (hitG ys m) R : Nat) : Int), true) := by
        unfold res
        rw [if_pos ⟨hb2, hb1, hI, hO⟩]
        simp [← hm]
      rw [hres]
      have hMm : (M : Int) = (m : Int) := hO.trans hm.symm
      obtain rfl : M = m := by omega
      have C1 := hid (fun W (h : Ext W0 W) i (hi : i < R) => l02Row_any (sp := none) (w.heap.size + 1) 0 R C i xs.length cq q us xs W hi hR1 hC1 hn1 hcq (h.cell t1) (h.cell t2) rfl (hp.ext (E0.trans h)) hf)
      have C4 := hid (fun W (h : Ext W0 W) i (hi : i < R) => l02Row_any (sp := none) (w.heap.size + 1) 3 R M i ys.length cq' q' us' ys W hi hR1 hM16 hn2 hcq' (h.cell t4) (h.cell t5) rfl (hp'.ext (E0.trans h)) hf')
      have C2 := hid (fun W (h : Ext W0 W) i (hi : i < R) q5 n5 c5 (hr : Rep W (.sl .flt) [.slice q5 n5 c5] (rowT xs C i)) => l03Row_any (sp := none) w.heap.size 0 p q5 L0.length c n5 c5 css L0 (rowT xs C i) W (L.ext (E0.trans h)) hM (h.cell a0) hr (by rw [rowT_len hn1 hi]; exact hI))
      have Hcur := hid (fun i (hi : i < R) => show (curF L0 (rowT xs C i) L0.length).length = M by
        have h1 := cur_out hM (x := rowT xs C i) (by rw [rowT_len hn1 hi]; exact hI)
        omega)
      have Hrow := hid (fun i (hi : i < R) => rowT_len (i := i) hn2 hi)
      have Hf := hid (fun i => show gi (curF L0 (rowT xs C i) L0.length) M = hitF L0 xs C M i from rfl)
      have Hg := hid (fun i => show gi (rowT ys M i) M = hitG ys M i from rfl)
      rw [← hI] at D
      rw [← hO] at E
      have hag := agr_le (hitF L0 xs C M) (hitG ys M)
      generalize hitF L0 xs C M = f at *
      generalize hitG ys M = g at *
      clear L hp hf hp' hf' hcq hcm hcq' hcm' hxm hym f0 hb1 hb2 hM hps hI hO hm hres hT1 hT2 hn1 hn2
      generalize L0.length = n0 at *
      generalize xs.length = n1 at *
      generalize ys.length = n2 at *
      obtain ⟨F, hF⟩ : ∃ F : Option Tmp → World → Value → Prop, F = fun d _ u => match d with | some 8 => u = .bool true | some 11 => u = .bool true | some 18 => u = .int .i64 (C : Int) | some 25 => u = .int .i64 (M : Int) | _ => False := ⟨_, rfl⟩
      have HF := hid hF
      clear hF
      go_enter Try.func34, Try.ntmps34
      go_wp2
      rw [← hW0]
      clear hW0
      have eD := Ext.drew W0
      have d0 := eD.cell a0; have d1 := eD.cell t0; have d2 := eD.cell t1; have d3 := eD.cell t2; have d4 := eD.cell t3; have d5 := eD.cell t4; have d6 := eD.cell t5
      refine wp_region_xall (F := F) (by kernel_rfl) (by kernel_rfl) (by kernel_rfl) ?_
      intro wf hwf
      repeat (first
        | (refine x_skip rfl ?_; simp only [Act.put, ev_tmp, List.setIfInBounds_toArray, List.set_cons_succ, List.set_cons_zero, List.getD_cons_succ, List.getD_cons_zero])
        | (refine x_mv rfl rfl rfl ?_; simp only [Act.put, ev_tmp, List.setIfInBounds_toArray, List.set_cons_succ, List.set_cons_zero, List.getD_cons_succ, List.getD_cons_zero])
        | (refine x_as rfl rfl rfl ?_; simp only [Act.put, ev_tmp, List.setIfInBounds_toArray, List.set_cons_succ, List.set_cons_zero, List.getD_cons_succ, List.getD_cons_zero])
        | ((with_reducible show wpX _ _ _ _ _ _ (Oper.mk _ (Op.call _) _ _ _ _ :: _) _); refine x_callf (f := 79) (args := #[.pointer (some ⟨w.heap.size, 0, none⟩)]) rfl rfl Try.func79 rfl (by kernel_rfl) ?_ ?_ ?_; (focus (simp [Act.eval]; done)); (focus (intro w1 hw1; exact (by rw [HF.out]; exact (A.out w1 (eD.trans hw1)).mono fun e w3 h => ⟨_, h.1, h.2, rfl⟩))); rintro u w3 e3 e4 hu; simp only [HF.out] at hu; subst hu; simp only [Act.put, ev_tmp, List.setIfInBounds_toArray, List.set_cons_succ, List.set_cons_zero, List.getD_cons_succ, List.getD_cons_zero])
        | ((with_reducible show wpX _ _ _ _ _ _ (Oper.mk _ (Op.call _) _ _ _ _ :: _) _); refine x_callf (f := 95) (args := #[.pointer (some ⟨w.heap.size + 1, 0, none⟩)]) rfl rfl Try.func95 rfl (by kernel_rfl) ?_ ?_ ?_; (focus (simp [Act.eval]; done)); (focus (intro w1 hw1; exact (by rw [HF.out]; exact (B.out w1 (eD.trans hw1)).mono fun e w3 h => ⟨_, h.1, h.2, rfl⟩))); rintro u w3 e3 e4 hu; simp only [HF.out] at hu; subst hu; simp only [Act.put, ev_tmp, List.setIfInBounds_toArray, List.set_cons_succ, List.set_cons_zero, List.getD_cons_succ, List.getD_cons_zero])
        | ((with_reducible show wpX _ _ _ _ _ _ (Oper.mk _ (Op.call _) _ _ _ _ :: _) _); refine x_callf (f := 80) (args := #[.pointer (some ⟨w.heap.size, 0, none⟩)]) rfl rfl Try.func80 rfl (by kernel_rfl) ?_ ?_ ?_; (focus (simp [Act.eval]; done)); (focus (intro w1 hw1; exact (by rw [HF.out]; exact (D.out w1 (eD.trans hw1)).mono fun e w3 h => ⟨_, h.1, h.2, rfl⟩))); rintro u w3 e3 e4 hu; simp only [HF.out] at hu; subst hu; simp only [Act.put, ev_tmp, List.setIfInBounds_toArray, List.set_cons_succ, List.set_cons_zero, List.getD_cons_succ, List.getD_cons_zero])
        | ((with_reducible show wpX _ _ _ _ _ _ (Oper.mk _ (Op.call _) _ _ _ _ :: _) _); refine x_callf (f := 96) (args := #[.pointer (some ⟨w.heap.size, 0, none⟩)]) rfl rfl Try.func96 rfl (by kernel_rfl) ?_ ?_ ?_; (focus (simp [Act.eval]; done)); (focus (intro w1 hw1; exact (by rw [HF.out]; exact (E.out w1 (eD.trans hw1)).mono fun e w3 h => ⟨_, h.1, h.2, rfl⟩))); rintro u w3 e3 e4 hu; simp only [HF.out] at hu; subst hu; simp only [Act.put, ev_tmp, List.setIfInBounds_toArray, List.set_cons_succ, List.set_cons_zero, List.getD_cons_succ, List.getD_cons_zero])
        | (refine x_run rfl fun K hK w1 hw1 => ?_; have k0 := hw1.cell (d0); have k1 := hw1.cell (d1); have k2 := hw1.cell (d2); have k3 := hw1.cell (d3); have k4 := hw1.cell (d4); have k5 := hw1.cell (d5); have k6 := hw1.cell (d6); go_simp; refine hK _ ?_; clear hK K k0 k1 k2 k3 k4 k5 k6 hw1 w1))
      refine x_nil ?_
      have eF := eD.trans hwf
      have j1 := eF.cell t0
      go_wp2
      go_loopw [6, 7] (fun nv iv wr => ∃ (r : Nat), r ≤ R ∧ iv = .int .i64 r ∧ nv = .int .i64 (agr f g r : Nat) ∧ Ext wf wr) (fun _ iv _ => R - (intOf iv).toNat)
      case atStart => exact ⟨0, by omega, rfl, rfl, Ext.refl _⟩
      case round =>
        obtain ⟨r, hr, rfl, rfl, he⟩ := hrel
        have hgr := hag r
        have l1 := he.cell j1
        by_cases hlt : r < R
        · have K1 := hid (fun W (h : Ext wr W) => C1.out W (eF.trans (he.trans h)) r hlt)
          have K4 := hid (fun W (h : Ext wr W) => C4.out W (eF.trans (he.trans h)) r hlt)
          have K2 := hid (fun W (h : Ext wr W) => C2.out W (eF.trans (he.trans h)) r hlt)
          have hc := Hcur.out r hlt
          have hw := Hrow.out r hlt
          have hf1 := Hf.out r
          have hg1 := Hg.out r
          have hs : agr f g (r + 1) = agr f g r + if f r = g r then 1 else 0 := rfl
          have HS := hid hs
          clear hs
          generalize f r = fr at *
          generalize g r = gr at *
          generalize curF L0 (rowT xs C r) n0 = zc at *
          generalize rowT ys M r = zy at *
          generalize rowT xs C r = zx at *
          have HC := hid hc
          have HW := hid hw
          have HF1 := hid hf1
          have HG1 := hid hg1
          clear hc hw hf1 hg1
          go_wp2_with fail
          refine (K1.out _ (Ext.refl _)).mono ?_
          intro e w1 h1
          obtain ⟨u1, rfl, e1, q5, c5, vs5, rfl, o5, f5⟩ := h1.is
          have rp5 := IsFl.rep (B := wr.heap.size) ⟨q5, c5, vs5, rfl, o5, f5⟩
          clear h1 o5 f5
          generalize zx.length = nx at *
          go_wp2_with fail
          refine (K2.out _ e1 _ _ _ rp5).mono ?_
          intro e w2 h2
          obtain ⟨u2, rfl, e2, q6, c6, vs6, rfl, o6, f6⟩ := h2.is
          clear h2 rp5
          have p6 := own_Cs o6
          have c6m := (own_cap o6).1
          have e12 := e1.trans e2
          rw [HC.out] at c6m ⊢
          clear o6
          go_wp2_with fail
          refine (l05Greatest_any q6 M c6 vs6 zc _ HC.out hM1 (by unfold maxLen; omega) p6 f6).mono ?_
          rw [HF1.out]
          rintro e w3 ⟨rfl, e3⟩
          have e13 := e12.trans e3
          clear p6 c6m
          go_wp2_with fail
          refine (K4.out _ e13).mono ?_
          intro e w4 h4
          obtain ⟨u4, rfl, e4, q7, c7, vs7, rfl, o7, f7⟩ := h4.is
          clear h4
          have p7 := own_Cs o7
          rw [HW.out]
          clear o7
          go_wp2_with fail
          refine (l05Greatest_any q7 M c7 vs7 zy _ HW.out hM1 (by unfold maxLen; omega) p7 f7).mono ?_
          rw [HG1.out]
          rintro e w5 ⟨rfl, e5⟩
          have eZ := he.trans (e13.trans (e4.trans e5))
          clear p7 f7 f6 e12
          by_cases hq : fr = gr
          all_goals
            first
              | (have hqq := beq_t (show (fr : Int) = (gr : Int) by omega))
              | (have hqq := beq_f (show ¬ (fr : Int) = (gr : Int) by omega))
            go_wp2
            go_roundw
            all_goals first
              | exact ⟨r + 1, by omega, by go_num, by rw [HS.out, if_pos hq]; go_num, eZ⟩
              | exact ⟨r + 1, by omega, by go_num, by rw [HS.out, if_neg hq]; rfl, eZ⟩
              | (simp [intOf]; omega)
        · obtain rfl : r = R := by omega
          go_wp2
          go_ret2
          exact ⟨rfl, (E0.trans eF).trans he⟩
    · rw [res_no (fun h => hO h.2.2.2)]
      have hx2 := bne_t hO
      have hx1 := bne_f hI
      clear L hp hf hp' hf' hcq hcm hcq' hcm' hxm hym f0 hb1 hb2 hM hps hI hO
      generalize L0.length = n0 at *
      generalize xs.length = n1 at *
      generalize ys.length = n2 at *
      generalize inL L0 0 = vI at *
      generalize outL L0 = vO at *
      obtain ⟨F, hF⟩ : ∃ F : Option Tmp → World → Value → Prop, F = fun d _ u => match d with | some 8 => u = .bool true | some 11 => u = .bool true | some 18 => u = .int .i64 vI | some 25 => u = .int .i64 vO | _ => False := ⟨_, rfl⟩
      have HF := hid hF
      clear hF
      go_enter Try.func34, Try.ntmps34
      go_wp2
      rw [← hW0]
      clear hW0
      have eD := Ext.drew W0
      have d0 := eD.cell a0; have d1 := eD.cell t0; have d2 := eD.cell t1; have d3 := eD.cell t2; have d4 := eD.cell t3; have d5 := eD.cell t4; have d6 := eD.cell t5
      refine wp_region_xall (F := F) (by kernel_rfl) (by kernel_rfl) (by kernel_rfl) ?_
      intro wf hwf
      repeat (first
        | (refine x_skip rfl ?_; simp only [Act.put, ev_tmp, List.setIfInBounds_toArray, List.set_cons_succ, List.set_cons_zero, List.getD_cons_succ, List.getD_cons_zero])
        | (refine x_mv rfl rfl rfl ?_; simp only [Act.put, ev_tmp, List.setIfInBounds_toArray, List.set_cons_succ, List.set_cons_zero, List.getD_cons_succ, List.getD_cons_zero])
        | (refine x_as rfl rfl rfl ?_; simp only [Act.put, ev_tmp, List.setIfInBounds_toArray, List.set_cons_succ, List.set_cons_zero, List.getD_cons_succ, List.getD_cons_zero])
        | ((with_reducible show wpX _ _ _ _ _ _ (Oper.mk _ (Op.call _) _ _ _ _ :: _) _); refine x_callf (f := 79) (args := #[.pointer (some ⟨w.heap.size, 0, none⟩)]) rfl rfl Try.func79 rfl (by kernel_rfl) ?_ ?_ ?_; (focus (simp [Act.eval]; done)); (focus (intro w1 hw1; exact (by rw [HF.out]; exact (A.out w1 (eD.trans hw1)).mono fun e w3 h => ⟨_, h.1, h.2, rfl⟩))); rintro u w3 e3 e4 hu; simp only [HF.out] at hu; subst hu; simp only [Act.put, ev_tmp, List.setIfInBounds_toArray, List.set_cons_succ, List.set_cons_zero, List.getD_cons_succ, List.getD_cons_zero])
        | ((with_reducible show wpX _ _ _ _ _ _ (Oper.mk _ (Op.call _) _ _ _ _ :: _) _); refine x_callf (f := 95) (args := #[.pointer (some ⟨w.heap.size + 1, 0, none⟩)]) rfl rfl Try.func95 rfl (by kernel_rfl) ?_ ?_ ?_; (focus (simp [Act.eval]; done)); (focus (intro w1 hw1; exact (by rw [HF.out]; exact (B.out w1 (eD.trans hw1)).mono fun e w3 h => ⟨_, h.1, h.2, rfl⟩))); rintro u w3 e3 e4 hu; simp only [HF.out] at hu; subst hu; simp only [Act.put, ev_tmp, List.setIfInBounds_toArray, List.set_cons_succ, List.set_cons_zero, List.getD_cons_succ, List.getD_cons_zero])
        | ((with_reducible show wpX _ _ _ _ _ _ (Oper.mk _ (Op.call _) _ _ _ _ :: _) _); refine x_callf (f := 80) (args := #[.pointer (some ⟨w.heap.size, 0, none⟩)]) rfl rfl Try.func80 rfl (by kernel_rfl) ?_ ?_ ?_; (focus (simp [Act.eval]; done)); (focus (intro w1 hw1; exact (by rw [HF.out]; exact (D.out w1 (eD.trans hw1)).mono fun e w3 h => ⟨_, h.1, h.2, rfl⟩))); rintro u w3 e3 e4 hu; simp only [HF.out] at hu; subst hu; simp only [Act.put, ev_tmp, List.setIfInBounds_toArray, List.set_cons_succ, List.set_cons_zero, List.getD_cons_succ, List.getD_cons_zero])
        | ((with_reducible show wpX _ _ _ _ _ _ (Oper.mk _ (Op.call _) _ _ _ _ :: _) _); refine x_callf (f := 96) (args := #[.pointer (some ⟨w.heap.size, 0, none⟩)]) rfl rfl Try.func96 rfl (by kernel_rfl) ?_ ?_ ?_; (focus (simp [Act.eval]; done)); (focus (intro w1 hw1; exact (by rw [HF.out]; exact (E.out w1 (eD.trans hw1)).mono fun e w3 h => ⟨_, h.1, h.2, rfl⟩))); rintro u w3 e3 e4 hu; simp only [HF.out] at hu; subst hu; simp only [Act.put, ev_tmp, List.setIfInBounds_toArray, List.set_cons_succ, List.set_cons_zero, List.getD_cons_succ, List.getD_cons_zero])
        | (refine x_run rfl fun K hK w1 hw1 => ?_; have k0 := hw1.cell (d0); have k1 := hw1.cell (d1); have k2 := hw1.cell (d2); have k3 := hw1.cell (d3); have k4 := hw1.cell (d4); have k5 := hw1.cell (d5); have k6 := hw1.cell (d6); go_simp; refine hK _ ?_; clear hK K k0 k1 k2 k3 k4 k5 k6 hw1 w1))
      refine x_nil ?_
      have eF := eD.trans hwf
      go_wp2
      go_ret2
      exact ⟨rfl, E0.trans eF⟩
  · rw [res_no (fun h => hI h.2.2.1)]
    have hx1 := bne_t hI
    clear L hp hf hp' hf' hcq hcm hcq' hcm' hxm hym f0 hb1 hb2 hM hps hI E
    generalize L0.length = n0 at *
    generalize xs.length = n1 at *
    generalize ys.length = n2 at *
    generalize inL L0 0 = vI at *
    obtain ⟨F, hF⟩ : ∃ F : Option Tmp → World → Value → Prop, F = fun d _ u => match d with | some 8 => u = .bool true | some 11 => u = .bool true | some 18 => u = .int .i64 vI | some 25 => u = .int .i64 0 | _ => False := ⟨_, rfl⟩
    have HF := hid hF
    clear hF
    go_enter Try.func34, Try.ntmps34
    go_wp2
    rw [← hW0]
    clear hW0
    have eD := Ext.drew W0
    have d0 := eD.cell a0; have d1 := eD.cell t0; have d2 := eD.cell t1; have d3 := eD.cell t2; have d4 := eD.cell t3; have d5 := eD.cell t4; have d6 := eD.cell t5
    refine wp_region_xall (F := F) (by kernel_rfl) (by kernel_rfl) (by kernel_rfl) ?_
    intro wf hwf
    repeat (first
      | (refine x_skip rfl ?_; simp only [Act.put, ev_tmp, List.setIfInBounds_toArray, List.set_cons_succ, List.set_cons_zero, List.getD_cons_succ, List.getD_cons_zero])
      | (refine x_mv rfl rfl rfl ?_; simp only [Act.put, ev_tmp, List.setIfInBounds_toArray, List.set_cons_succ, List.set_cons_zero, List.getD_cons_succ, List.getD_cons_zero])
      | (refine x_as rfl rfl rfl ?_; simp only [Act.put, ev_tmp, List.setIfInBounds_toArray, List.set_cons_succ, List.set_cons_zero, List.getD_cons_succ, List.getD_cons_zero])
      | ((with_reducible show wpX _ _ _ _ _ _ (Oper.mk _ (Op.call _) _ _ _ _ :: _) _); refine x_callf (f := 79) (args := #[.pointer (some ⟨w.heap.size, 0, none⟩)]) rfl rfl Try.func79 rfl (by kernel_rfl) ?_ ?_ ?_; (focus (simp [Act.eval]; done)); (focus (intro w1 hw1; exact (by rw [HF.out]; exact (A.out w1 (eD.trans hw1)).mono fun e w3 h => ⟨_, h.1, h.2, rfl⟩))); rintro u w3 e3 e4 hu; simp only [HF.out] at hu; subst hu; simp only [Act.put, ev_tmp, List.setIfInBounds_toArray, List.set_cons_succ, List.set_cons_zero, List.getD_cons_succ, List.getD_cons_zero])
      | ((with_reducible show wpX _ _ _ _ _ _ (Oper.mk _ (Op.call _) _ _ _ _ :: _) _); refine x_callf (f := 95) (args := #[.pointer (some ⟨w.heap.size + 1, 0, none⟩)]) rfl rfl Try.func95 rfl (by kernel_rfl) ?_ ?_ ?_; (focus (simp [Act.eval]; done)); (focus (intro w1 hw1; exact (by rw [HF.out]; exact (B.out w1 (eD.trans hw1)).mono fun e w3 h => ⟨_, h.1, h.2, rfl⟩))); rintro u w3 e3 e4 hu; simp only [HF.out] at hu; subst hu; simp only [Act.put, ev_tmp, List.setIfInBounds_toArray, List.set_cons_succ, List.set_cons_zero, List.getD_cons_succ, List.getD_cons_zero])
      | ((with_reducible show wpX _ _ _ _ _ _ (Oper.mk _ (Op.call _) _ _ _ _ :: _) _); refine x_callf (f := 80) (args := #[.pointer (some ⟨w.heap.size, 0, none⟩)]) rfl rfl Try.func80 rfl (by kernel_rfl) ?_ ?_ ?_; (focus (simp [Act.eval]; done)); (focus (intro w1 hw1; exact (by rw [HF.out]; exact (D.out w1 (eD.trans hw1)).mono fun e w3 h => ⟨_, h.1, h.2, rfl⟩))); rintro u w3 e3 e4 hu; simp only [HF.out] at hu; subst hu; simp only [Act.put, ev_tmp, List.setIfInBounds_toArray, List.set_cons_succ, List.set_cons_zero, List.getD_cons_succ, List.getD_cons_zero])
      | (refine x_run rfl fun K hK w1 hw1 => ?_; have k0 := hw1.cell (d0); have k1 := hw1.cell (d1); have k2 := hw1.cell (d2); have k3 := hw1.cell (d3); have k4 := hw1.cell (d4); have k5 := hw1.cell (d5); have k6 := hw1.cell (d6); go_simp; refine hK _ ?_; clear hK K k0 k1 k2 k3 k4 k5 k6 hw1 w1))
    refine x_nil ?_
    have eF := eD.trans hwf
    go_wp2
    go_ret2
    exact ⟨rfl, E0.trans eF⟩
end Go.Proofs.Ytangnigplachdaa.lCountCorrect
