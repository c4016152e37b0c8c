/- The forward pass: one layer, the second program. -/
import Derived.Test.YtnlhahlegedlaaaFwd8
namespace Go.Proofs.Ytnlhahlegedlaaa
set_option linter.unusedSimpArgs false
set_option linter.unusedVariables false
open Go.RowKit

set_option maxRecDepth 100000 in
set_option maxHeartbeats 4000000 in
theorem l03Run_any {sp : Option Nat} (bl o' : Nat) (k : Int) (n m nw nb : Nat) (p pw pb : Option Addr) (c cw cb : Nat) (us uw ub : List Value) (xs ws bs : List Nat) (w : World) (hk : layB k n m nw nb = true) (hx : xs.length = n) (hw : ws.length = nw) (hb : bs.length = nb) (hp : Cs w p us) (hf : F32s us xs)
    (hpw : Cs w pw uw) (hfw : F32s uw ws) (hpb : Cs w pb ub) (hfb : F32s ub bs)
    (f0 : w.cell? ⟨bl, o', sp⟩ = some (.int .i64 k)) (f1 : w.cell? ⟨bl, o' + 1, none⟩ = some (.int .i64 n)) (f2 : w.cell? ⟨bl, o' + 2, none⟩ = some (.int .i64 m))
    (f3 : w.cell? ⟨bl, o' + 3, none⟩ = some (.slice pw nw cw)) (f4 : w.cell? ⟨bl, o' + 4, none⟩ = some (.slice pb nb cb)) :
    Calls Try.prog 107 #[.pointer (some ⟨bl, o', sp⟩), .slice p n c] w (RetFl w (runF k n m ws bs xs)) := by
  obtain ⟨h0, h1, h2, h3, h4, h5, h6, h7, h8⟩ := lay_of hk
  by_cases k4 : k = 4
  · subst k4
    have hs : runF 4 n m ws bs xs = softF xs := rfl
    rw [hs]
    have C := hid (fun w1 (e1 : Ext w w1) => l03Softmax_any p n c us xs w1 hx h1 (by omega) (hp.ext e1) hf)
    clear hx hw hb hk h0 h1 h2 h3 h4 h5 h6 h7 h8 hs
    go_enter Try.func107, Try.ntmps107
    go_wp2_with fail
    refine (C.out _ (Ext.refl _)).mono ?_
    rintro e w1 ⟨q, cq, vs, rfl, own0, HF, he⟩
    go_wp2
    go_ret
    exact ⟨q, cq, vs, rfl, own0, HF, he⟩
  · by_cases k5 : k = 5
    · subst k5
      obtain ⟨rfl, rfl⟩ := h8 rfl
      have hs : runF 5 n m ws bs xs = normF ws bs xs := rfl
      rw [hs]
      have C := hid (l03Norm_any (sp := sp) bl o' p pw pb n c cw cb us uw ub xs ws bs w hx hw hb (by omega) hp hf hpw hfw hpb hfb f1 f3 f4)
      clear hx hw hb hk h0 h1 h2 h3 h4 h5 h6 h7 h8 hs k4
      go_enter Try.func107, Try.ntmps107
      go_wp2_with fail
      refine C.out.mono ?_
      rintro e w1 ⟨q, cq, vs, rfl, own0, HF, he⟩
      go_wp2
      go_ret
      exact ⟨q, cq, vs, rfl, own0, HF, he⟩
    · have hs : runF k n m ws bs xs = tab m (rO k n ws bs xs) := by unfold runF; rw [if_neg k4, if_neg k5]
      rw [hs]
      have X := hid hx
      have HW := hid hw
      have HB := hid hb
      have b4 := beq_f k4
      have b5 := beq_f k5
      have hk4 : k = 0 ∨ k = 1 ∨ k = 2 ∨ k = 3 := by omega
      have H6 := hid h6
      have H7 := hid h7
      have H5 := hid h5
      clear hx hw hb hk h0 hs h6 h7 h8 h5
      have hstart : (w.alloc (.cells #[] 26)).ownsRow w.heap.size 26 1 (.slice (some ⟨w.heap.size, 0, none⟩) 0 0) 0 [] := World.ownsRow_made w #[] 0 (Nat.le_refl _) (by decide) rfl
      have e9 := Ext.alloc w (.cells #[] 26)
      go_enter Try.func107, Try.ntmps107
      go_wp2
      go_loopw [5, 6] (fun ov iv wr => ∃ (i : Nat) (vs : List Value) (q : Option Addr) (cq : Nat), i ≤ m ∧ iv = .int .i64 i ∧ ov = .slice q i cq ∧ wr.ownsRow w.heap.size 26 1 (.slice q i cq) i vs ∧ Hid (F32s vs (tab i (rO k n ws bs xs))) ∧ Ext w wr) (fun _ iv _ => m - (intOf iv).toNat)
      case atStart => exact ⟨0, [], _, _, by omega, rfl, rfl, hstart, F32s.nil, e9⟩
      case round =>
        clear hstart e9
        obtain ⟨i, vs, q, cq, hi, rfl, rfl, own0, HF, he⟩ := hrel
        have hB := he.size
        have g2 := he.cell f2
        by_cases hlt : i < m
        · have g0 := he.cell f0
          have g1 := he.cell f1
          have g3 := he.cell f3
          have g4 := he.cell f4
          have hpi := hp.ext he
          rcases hk4 with rfl | rfl | rfl | rfl
          · obtain ⟨hnw, hnb⟩ := H6.out rfl
            obtain ⟨L, hL⟩ : ∃ L : Nat, L = i * n := ⟨_, rfl⟩
            have hb1 : i * n ≤ 7 * 8 := Nat.mul_le_mul (by omega) (by omega)
            have hb2 : L + n ≤ nw := by
              rw [hL, hnw, ← Nat.succ_mul, Nat.mul_comm n m]; exact Nat.mul_le_mul_right _ (by omega)
            have m1 : (i : Int) * (n : Int) = (L : Int) := by rw [hL]; push_cast; rfl
            have l1 : IntKind.i64.wrap ((i : Int) * (n : Int)) = (L : Int) := by rw [m1]; exact wrap_in _ (by omega) (by omega)
            have hbl : i < nb := by omega
            have HL := hid hL
            clear hL m1 hb1 hnw hnb
            have hb56 : L ≤ 56 := by rw [HL.out]; exact Nat.mul_le_mul (show i ≤ 7 by omega) h2
            have heS := hid he
            go_wp2
            have own9 := own0
            clear own0
            go_loopw [7, 8] (fun sv jv wq => ∃ (j b : Nat), j ≤ n ∧ jv = .int .i64 j ∧ sv = .float .f32 b ∧ Hid (cn .f32 b = dotG (fun t => ws.getD (L + t) 0) (fun t => xs.getD t 0) j) ∧ Ext wr wq) (fun _ jv _ => n - (intOf jv).toNat)
            case atStart => exact ⟨0, 0, by omega, rfl, rfl, cn0, Ext.refl _⟩
            case round =>
              obtain ⟨j, b, hj, rfl, rfl, HS, hq⟩ := hrel
              have q1 := hq.cell g1
              by_cases hjl : j < n
              · have l4 : IntKind.i64.wrap ((L : Int) + (j : Int)) = (L : Int) + (j : Int) := wrap_in _ (by omega) (by omega)
                go_wp2
                have k0 := Ext.drew wr
                have kx := (hpi.ext hq).ext k0
                have kw := ((hpw.ext he).ext hq).ext k0
                have q3 := k0.cell (hq.cell g3)
                have q1' := k0.cell q1
                refine wp_region_xall (F := fun _ _ _ => False) (by kernel_rfl) (by kernel_rfl) (by kernel_rfl) ?_
                intro wf hwf
                repeat (first
                  | (refine x_skip rfl ?_; simp only [Act.put, ev_tmp, List.setIfInBounds_toArray, List.set_cons_succ, List.set_cons_zero, List.getD_cons_succ, List.getD_cons_zero])
                  | (refine x_mv rfl rfl rfl ?_; simp only [Act.put, ev_tmp, List.setIfInBounds_toArray, List.set_cons_succ, List.set_cons_zero, List.getD_cons_succ, List.getD_cons_zero])
                  | (refine x_as rfl rfl rfl ?_; simp only [Act.put, ev_tmp, List.setIfInBounds_toArray, List.set_cons_succ, List.set_cons_zero, List.getD_cons_succ, List.getD_cons_zero])
                  | ((with_reducible show wpX _ _ _ _ _ _ (Oper.mk _ (Op.indexAddr _ _ _) _ _ _ _ :: Oper.mk _ (Op.load _ _) _ _ _ _ :: _) _); refine x_ldF rfl rfl (fun _ => rfl) rfl (fun _ => rfl) rfl rfl kw hfw HW.out (by omega) (by omega) ?_; intro r1 z1; have G1 := hid z1; clear z1; simp only [Act.put, ev_tmp, List.setIfInBounds_toArray, List.set_cons_succ, List.set_cons_zero, List.getD_cons_succ, List.getD_cons_zero])
                  | ((with_reducible show wpX _ _ _ _ _ _ (Oper.mk _ (Op.indexAddr _ _ _) _ _ _ _ :: Oper.mk _ (Op.load _ _) _ _ _ _ :: _) _); refine x_ldF rfl rfl (fun _ => rfl) rfl (fun _ => rfl) rfl rfl kx hf X.out (by omega) (by omega) ?_; intro r2 z2; have G2 := hid z2; clear z2; simp only [Act.put, ev_tmp, List.setIfInBounds_toArray, List.set_cons_succ, List.set_cons_zero, List.getD_cons_succ, List.getD_cons_zero])
                  | ((with_reducible show wpX _ _ _ _ _ _ (Oper.mk _ (Op.binOp _ _ _ _ _) _ _ _ _ :: _) _); refine x_fop rfl rfl rfl rfl rfl ?_; first | (have zz := G3; intro r4 z4; have G4 := hid z4; clear z4 zz) | (intro r3 z3; have G3 := hid z3; clear z3); simp only [Act.put, ev_tmp, List.setIfInBounds_toArray, List.set_cons_succ, List.set_cons_zero, List.getD_cons_succ, List.getD_cons_zero])
                  | (refine x_run rfl fun K hK w1 hw1 => ?_; have k0 := hw1.cell (q1'); have k1 := hw1.cell (q3); go_simp; refine hK _ ?_; clear hK K k0 k1 hw1 w1))
                refine x_nil ?_
                go_wp2
                go_roundw
                case rel =>
                  refine ⟨j + 1, _, by omega, by go_num, rfl, ?_, (hq.trans k0).trans hwf⟩
                  have y1 := G1.out
                  have y2 := G2.out
                  simp only [Int.toNat_natCast] at y1 y2
                  rw [show ((L : Int) + (j : Int)).toNat = L + j by omega] at y1
                  rw [Hid, G4.out, HS.out, G3.out, y1, y2]; rfl
                case measure => simp [intOf]; omega
              · obtain rfl : n = j := by omega
                have k4' := hq.cell g4
                have kb := (hpb.ext he).ext hq
                have own0 := own_ext own9 hq
                replace he := he.trans hq
                go_wp2_with (first | ((with_reducible show wpList _ _ _ (Oper.mk _ (Op.indexAddr _ _ _) _ _ _ _ :: Oper.mk _ (Op.load _ _) _ _ _ _ :: _) _ _); refine wl_ldF rfl rfl rfl rfl (fun _ => rfl) rfl rfl kb hfb HB.out (by omega) (by omega) ?_; intro r2 z2; have G2 := hid z2; clear z2) | ((with_reducible show wpList _ _ _ (Oper.mk _ (Op.binOp _ _ _ _ _) _ _ _ _ :: _) _ _); refine wl_fop rfl rfl rfl rfl rfl ?_; intro r3 w3 e3 z3; have G3 := hid z3; clear z3; replace own0 := own_ext own0 e3; replace he := he.trans e3; have hB := he.size) | ((with_reducible show wpList _ _ _ (Oper.mk _ (Op.buildSlice _ _ _) _ _ _ _ :: Oper.mk _ (Op.call _) _ _ _ _ :: _) _ _); refine wl_app1b (u := .float .f32 r3) rfl rfl rfl rfl rfl rfl rfl (fun _ => rfl) (fun _ => rfl) own0 (by unfold maxLen; omega) (by omega) (by omega) ?_; intro g c w4 own4 g4 hg4))
                have hv : cn .f32 r3 = rO 0 n ws bs xs i := by rw [G3.out, G2.out, HS.out, HL.out, Int.toNat_natCast]; rfl
                have HV3 := hid hv
                clear hv
                go_roundw
                case rel =>
                  have own5 : w4.ownsRow w.heap.size 26 1 (.slice (some ⟨g, 0, none⟩) (i + 1) c) (i + 1) (vs ++ [.float .f32 r3]) := own4
                  exact ⟨i + 1, vs ++ [.float .f32 r3], _, _, by omega, by go_num, rfl, own5, by rw [Hid]; exact HF.out.push HV3.out, he.grown g4 (fun k hk => own_le own0 k hk)⟩
                case measure => simp [intOf]; omega
          · go_wp2_with (first | ((with_reducible show wpList _ _ _ (Oper.mk _ (Op.indexAddr _ _ _) _ _ _ _ :: Oper.mk _ (Op.load _ _) _ _ _ _ :: _) _ _); refine wl_ldF rfl rfl rfl rfl (fun _ => rfl) rfl rfl hpi hf X.out (by omega) (by have := H5.out; omega) ?_; intro r2 q2; have G2 := hid q2; clear q2) | ((with_reducible show wpList _ _ _ (Oper.mk _ (Op.call _) _ _ _ _ :: _) _ _); fail))
            refine (l03Relu_any r2 _).mono ?_
            rintro e w3 ⟨r3, rfl, q3, e3⟩
            have hv : cn .f32 r3 = rO 1 n ws bs xs i := by rw [q3, G2.out, Int.toNat_natCast]; rfl
            have HV3 := hid hv
            clear hv q3
            replace own0 := own_ext own0 e3
            replace he := he.trans e3
            have hB := he.size
            go_wp2_with ((with_reducible show wpList _ _ _ (Oper.mk _ (Op.buildSlice _ _ _) _ _ _ _ :: Oper.mk _ (Op.call _) _ _ _ _ :: _) _ _); refine wl_app1b (u := .float .f32 r3) rfl rfl rfl rfl rfl rfl rfl (fun _ => rfl) (fun _ => rfl) own0 (by unfold maxLen; omega) (by omega) (by omega) ?_; intro g c w4 own4 g4 hg4)
            go_roundw
            case rel =>
              have own5 : w4.ownsRow w.heap.size 26 1 (.slice (some ⟨g, 0, none⟩) (i + 1) c) (i + 1) (vs ++ [.float .f32 r3]) := own4
              exact ⟨i + 1, vs ++ [.float .f32 r3], _, _, by omega, by go_num, rfl, own5, by rw [Hid]; exact HF.out.push HV3.out, he.grown g4 (fun k hk => own_le own0 k hk)⟩
            case measure => simp [intOf]; omega
          · have hwl : i < nw := by have := H5.out; have := H7.out rfl; omega
            have hxl : i < n := by have := H5.out; omega
            have hpw1 := hpw.ext he
            go_wp2
            have k0 := Ext.drew wr
            replace g3 := k0.cell g3
            have ka := hpi.ext k0
            have kb := hpw1.ext k0
            refine wp_region_xall (F := fun _ _ _ => False) (by kernel_rfl) (by kernel_rfl) (by kernel_rfl) ?_
            intro wf hwf
            repeat (first
              | (refine x_skip rfl ?_; simp only [Act.put, ev_tmp, List.setIfInBounds_toArray, List.set_cons_succ, List.set_cons_zero, List.getD_cons_succ, List.getD_cons_zero])
              | (refine x_mv rfl rfl rfl ?_; simp only [Act.put, ev_tmp, List.setIfInBounds_toArray, List.set_cons_succ, List.set_cons_zero, List.getD_cons_succ, List.getD_cons_zero])
              | (refine x_as rfl rfl rfl ?_; simp only [Act.put, ev_tmp, List.setIfInBounds_toArray, List.set_cons_succ, List.set_cons_zero, List.getD_cons_succ, List.getD_cons_zero])
              | ((with_reducible show wpX _ _ _ _ _ _ (Oper.mk _ (Op.indexAddr _ _ _) _ _ _ _ :: Oper.mk _ (Op.load _ _) _ _ _ _ :: _) _); refine x_ldF rfl rfl (fun _ => rfl) rfl (fun _ => rfl) rfl rfl kb hfw HW.out (by omega) (by omega) ?_; intro r1 q1; have G1 := hid q1; clear q1; simp only [Act.put, ev_tmp, List.setIfInBounds_toArray, List.set_cons_succ, List.set_cons_zero, List.getD_cons_succ, List.getD_cons_zero])
              | ((with_reducible show wpX _ _ _ _ _ _ (Oper.mk _ (Op.indexAddr _ _ _) _ _ _ _ :: Oper.mk _ (Op.load _ _) _ _ _ _ :: _) _); refine x_ldF rfl rfl (fun _ => rfl) rfl (fun _ => rfl) rfl rfl ka hf X.out (by omega) (by omega) ?_; intro r2 q2; have G2 := hid q2; clear q2; simp only [Act.put, ev_tmp, List.setIfInBounds_toArray, List.set_cons_succ, List.set_cons_zero, List.getD_cons_succ, List.getD_cons_zero])
              | ((with_reducible show wpX _ _ _ _ _ _ (Oper.mk _ (Op.binOp _ _ _ _ _) _ _ _ _ :: _) _); refine x_fop rfl rfl rfl rfl rfl ?_; intro r3 q3; have G3 := hid q3; clear q3; simp only [Act.put, ev_tmp, List.setIfInBounds_toArray, List.set_cons_succ, List.set_cons_zero, List.getD_cons_succ, List.getD_cons_zero])
              | (refine x_run rfl fun K hK w1 hw1 => ?_; have k0 := hw1.cell (g3); go_simp; refine hK _ ?_; clear hK K k0 hw1 w1))
            refine x_nil ?_
            have hv : cn .f32 r3 = rO 2 n ws bs xs i := by rw [G3.out, G1.out, G2.out, Int.toNat_natCast]; rfl
            have HV3 := hid hv
            clear hv
            replace own0 := own_ext (own_ext own0 k0) hwf
            replace he := (he.trans k0).trans hwf
            have hB := he.size
            go_wp2_with ((with_reducible show wpList _ _ _ (Oper.mk _ (Op.buildSlice _ _ _) _ _ _ _ :: Oper.mk _ (Op.call _) _ _ _ _ :: _) _ _); refine wl_app1b (u := .float .f32 r3) rfl rfl rfl rfl rfl rfl rfl (fun _ => rfl) (fun _ => rfl) own0 (by unfold maxLen; omega) (by omega) (by omega) ?_; intro g c w4 own4 g4 hg4)
            go_roundw
            case rel =>
              have own5 : w4.ownsRow w.heap.size 26 1 (.slice (some ⟨g, 0, none⟩) (i + 1) c) (i + 1) (vs ++ [.float .f32 r3]) := own4
              exact ⟨i + 1, vs ++ [.float .f32 r3], _, _, by omega, by go_num, rfl, own5, by rw [Hid]; exact HF.out.push HV3.out, he.grown g4 (fun k hk => own_le own0 k hk)⟩
            case measure => simp [intOf]; omega
          · go_wp2_with (first | ((with_reducible show wpList _ _ _ (Oper.mk _ (Op.indexAddr _ _ _) _ _ _ _ :: Oper.mk _ (Op.load _ _) _ _ _ _ :: _) _ _); refine wl_ldF rfl rfl rfl rfl (fun _ => rfl) rfl rfl hpi hf X.out (by omega) (by have := H5.out; omega) ?_; intro r2 q2; have G2 := hid q2; clear q2) | ((with_reducible show wpList _ _ _ (Oper.mk _ (Op.call _) _ _ _ _ :: _) _ _); fail))
            refine (l01Tanh_any r2 _).mono ?_
            rintro e w3 ⟨r3, rfl, q3, e3⟩
            have hv : cn .f32 r3 = rO 3 n ws bs xs i := by rw [q3, G2.out, Int.toNat_natCast]; rfl
            have HV3 := hid hv
            clear hv q3
            replace own0 := own_ext own0 e3
            replace he := he.trans e3
            have hB := he.size
            go_wp2_with ((with_reducible show wpList _ _ _ (Oper.mk _ (Op.buildSlice _ _ _) _ _ _ _ :: Oper.mk _ (Op.call _) _ _ _ _ :: _) _ _); refine wl_app1b (u := .float .f32 r3) rfl rfl rfl rfl rfl rfl rfl (fun _ => rfl) (fun _ => rfl) own0 (by unfold maxLen; omega) (by omega) (by omega) ?_; intro g c w4 own4 g4 hg4)
            go_roundw
            case rel =>
              have own5 : w4.ownsRow w.heap.size 26 1 (.slice (some ⟨g, 0, none⟩) (i + 1) c) (i + 1) (vs ++ [.float .f32 r3]) := own4
              exact ⟨i + 1, vs ++ [.float .f32 r3], _, _, by omega, by go_num, rfl, own5, by rw [Hid]; exact HF.out.push HV3.out, he.grown g4 (fun k hk => own_le own0 k hk)⟩
            case measure => simp [intOf]; omega
        · obtain rfl : m = i := by omega
          go_wp2
          go_ret
          exact retFl_own (tab_len _ _) own0 HF.out rfl he
end Go.Proofs.Ytnlhahlegedlaaa
