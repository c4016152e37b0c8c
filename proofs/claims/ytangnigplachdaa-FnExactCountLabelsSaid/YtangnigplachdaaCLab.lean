/- CountLabels, both parts. -/
import Derived.Test.YtangnigplachdaaConf3
namespace Go.Proofs.Ytangnigplachdaa.lCountLabels
set_option linter.unusedSimpArgs false
set_option linter.unusedVariables false
open Go.RowKit

def res (d : shModel.T) (x : shTensor.T) (l : List Int) : Int × Bool := if okL d x l then (hits l (bestF d.1 x.2.2.1 x.2.1.toNat (outL d.1).toNat) l.length, true) else (0, false)
theorem res_no {d : shModel.T} {x : shTensor.T} {l : List Int} (h : ¬ okL d x l) : res d x l = (0, false) := by unfold res; rw [if_neg h]
def Got (w : World) (r : Int × Bool) (e : Ending) (w' : World) : Prop := e = .returned (.tuple #[.int .i64 r.1, .bool r.2]) ∧ Ext w w'
set_option maxRecDepth 100000 in
set_option maxHeartbeats 4000000 in
theorem impl_ok (cs0 : List Value) (D0 : shModel.T) (cs1 : List Value) (D1 : shTensor.T) (cs2 : List Value) (D2 : List Int) (w : World) (h0 : Rep w shModel cs0 D0) (h1 : Rep w shTensor cs1 D1) (h2 : Rep w (.sl .int) cs2 D2) (f0 : Fit shModel D0) (f1 : Fit shTensor D1) (f2 : Fit (.sl .int) D2) : Calls Try.prog 40 #[ofCs shModel cs0, ofCs shTensor cs1, ofCs (.sl .int) cs2] w (Got w (res D0 D1 D2)) := by
  have K := hid (fun W (h : Ext w W) => lConfusionOf.impl_ok cs0 D0 cs1 D1 cs2 D2 W (h0.ext h) (h1.ext h) (h2.ext h) f0 f1 f2)
  by_cases hok : okL D0 D1 D2
  case neg =>
    rw [res_no hok]
    rw [lConfusionOf.res_no hok] at K
    obtain ⟨L0, u0⟩ := D0
    obtain ⟨c0, c1, rfl, k0, rfl⟩ := h0
    obtain ⟨p, c, rfl, _⟩ := rep_val k0
    obtain ⟨q, cq, us, rfl, _⟩ := ten_vals h1
    obtain ⟨r, k, xs, _⟩ := D1
    obtain ⟨p3, c3, rfl, _⟩ := rep_ints.1 h2
    dsimp only at K ⊢
    simp only [ofCs, Sh.agg, if_true, List.append_nil, List.headD_cons, Bool.false_eq_true, if_false] at K ⊢
    clear h1 h2 k0 f0 f1 f2 hok
    generalize L0.length = n0 at *
    generalize xs.length = n1 at *
    generalize D2.length = n2 at *
    obtain ⟨W0, hW0⟩ : ∃ W0, W0 = (w.alloc (.cells #[.slice p n0 c] 32)).alloc (.cells #[.int .i64 r, .int .i64 k, .slice q n1 cq] 45) := ⟨_, rfl⟩
    obtain ⟨E0, s0, b0, b1⟩ := box2 hW0
    clear b0 b1 s0
    go_enter Try.func40, Try.ntmps40
    go_wp2_with fail
    rw [← hW0]
    clear hW0
    refine (K.out _ E0).mono ?_
    rintro e w1 ⟨cs4, bs4, rfl, own4, _, _, e1⟩
    obtain ⟨p4, c4, rfl, _⟩ := rep_val own4.rep
    simp only [ofCs, Sh.agg, List.headD_cons, Bool.false_eq_true, if_false]
    go_wp2
    go_ret2
    exact ⟨rfl, E0.trans e1⟩
  have hres : res D0 D1 D2 = (hits D2 (bestF D0.1 D1.2.2.1 D1.2.1.toNat (outL D0.1).toNat) (List.length D2), true) := by unfold res; rw [if_pos hok]
  rw [hres]
  have hK : lConfusionOf.res D0 D1 D2 = (tabF (outL D0.1).toNat D2 (bestF D0.1 D1.2.2.1 D1.2.1.toNat (outL D0.1).toNat) (List.length D2), true) := by unfold lConfusionOf.res; rw [if_pos hok]
  rw [hK] at K
  obtain ⟨m, hm, hm1, hm8⟩ := outL_nat (modOk hok.1.1)
  have hlb := hok.2.2
  obtain ⟨R, C, e1, e2, hR, hR1, _, _, hnx⟩ := tenB_of hok.1.2.1
  have hlen : List.length D2 ≤ 16 := by have := hok.2.1; omega
  rw [← hm, Int.toNat_natCast] at K ⊢
  rw [← hm] at hlb
  generalize hg : bestF D0.1 D1.2.2.1 D1.2.1.toNat m = g at *
  have Hd := hid (diag_tab (O := m) (l := D2) (g := g) (List.length D2) (fun i hi => by
    have := lblB_at hlb (i := i) hi
    rw [List.getD_eq_getElem?_getD, List.getElem?_eq_getElem hi, Option.getD_some]; omega) (fun i hi => by rw [← hg]; exact gi_lt _ (by omega)))
  obtain ⟨L0, u0⟩ := D0
  obtain ⟨c0, c1, rfl, k0, rfl⟩ := h0
  obtain ⟨p, c, rfl, _⟩ := rep_val k0
  obtain ⟨q, cq, us, rfl, _⟩ := ten_vals h1
  obtain ⟨r, k, xs, _⟩ := D1
  obtain ⟨p3, c3, rfl, _⟩ := rep_ints.1 h2
  dsimp only at K ⊢
  simp only [ofCs, Sh.agg, if_true, List.append_nil, List.headD_cons, Bool.false_eq_true, if_false] at K ⊢
  clear h1 h2 k0 f0 f1 f2 hok hres hK hlb e1 e2 hg hm hnx
  have Hbd := hid (fun a b => tabF_bd m D2 g (List.length D2) a b)
  have Hdb := hid (fun n => diag_bd (T := tabF m D2 g (List.length D2)) (m := 16) (fun a b => by have := tabF_bd m D2 g (List.length D2) a b; omega) n)
  obtain ⟨ht1, ht2⟩ := tabF_len m D2 g (List.length D2)
  have Ht1 := hid ht1
  have Ht2 := hid ht2
  clear ht1 ht2
  generalize hT : tabF m D2 g (List.length D2) = T at *
  generalize hits D2 g (List.length D2) = H at *
  clear hT
  generalize L0.length = n0 at *
  generalize xs.length = n1 at *
  generalize D2.length = n2 at *
  obtain ⟨W0, hW0⟩ : ∃ W0, W0 = (w.alloc (.cells #[.slice p n0 c] 32)).alloc (.cells #[.int .i64 r, .int .i64 k, .slice q n1 cq] 45) := ⟨_, rfl⟩
  obtain ⟨E0, s0, b0, b1⟩ := box2 hW0
  clear b0 b1 s0
  go_enter Try.func40, Try.ntmps40
  go_wp2_with fail
  rw [← hW0]
  clear hW0
  refine (K.out _ E0).mono ?_
  rintro e w1 ⟨cs4, bs4, rfl, own4, _, _, e1⟩
  dsimp only at own4
  obtain ⟨p4, c4, css, rfl, a2, a3, a4, a5, a6, a7⟩ := rep_sl own4.rep
  simp only [ofCs, Sh.agg, List.headD_cons, Bool.false_eq_true, if_false]
  rw [Ht1.out] at a7 a3 ⊢
  have Hc := hid a7
  clear K own4 a7
  have a6 : ∀ c ∈ css, c.length = 1 := a6
  have hfl : css.flatten.length = m := by rw [flat_len' a6, Hc.out, Nat.mul_one]
  have Hfl := hid hfl
  clear hfl
  go_wp2
  go_loopw [10, 23] (fun nv iv wr => ∃ (i : Nat), i ≤ m ∧ iv = .int .i64 i ∧ nv = .int .i64 (diag T i) ∧ Ext w1 wr) (fun _ iv _ => m - (intOf iv).toNat)
  case atStart => exact ⟨0, by omega, rfl, rfl, Ext.refl _⟩
  case round =>
    obtain ⟨i, hi, rfl, rfl, he⟩ := hrel
    by_cases hlt : i < m
    · obtain ⟨ci, hci, ri⟩ := a5.get i (T[i]'(by rw [Ht1.out]; exact hlt)) (by simp)
      obtain ⟨pi, cpi, rfl, hri, _⟩ := rep_ints.1 ri
      have hx3 : (T[i]'(by rw [Ht1.out]; exact hlt)).length = m := Ht2.out _ (by simp)
      have hx4 : T.getD i [] = T[i]'(by rw [Ht1.out]; exact hlt) := by rw [List.getD_eq_getElem?_getD, List.getElem?_eq_getElem]; rfl
      have hst : diag T (i + 1) = diag T i + (T.getD i []).getD i 0 := rfl
      have hd0 := Hdb.out i
      have hd1 := Hdb.out (i + 1)
      have hga := hid (one_get a6 hci)
      rw [hx4] at hst
      have p1 := a2.ext he
      have p2 := hri.ext he
      generalize (T[i]'(by rw [Ht1.out]; exact hlt)) = x at *
      rw [hx3] at hga
      have Hx3 := hid hx3
      generalize hxv : x.getD i 0 = xv at *
      have Hxv := hid hxv
      have Hst := hid hst
      rw [hst] at hd1
      generalize diag T i = d at *
      have hi8 : (i : Int) * 16 ≤ 128 := by omega
      have qx : IntKind.i64.wrap (d + xv) = d + xv := wrap_in _ (by push_cast at hd1; omega) (by push_cast at hd1; omega)
      clear hx3 hx4 hst hxv hci ri hd1
      go_wp2_with (first | ((with_reducible show wpList _ _ _ (Oper.mk _ (Op.indexAddr _ _ _) _ _ _ _ :: Oper.mk _ (Op.load _ _) _ _ _ _ :: _) _ _); refine wl_idxload rfl rfl rfl rfl (fun _ => rfl) rfl rfl p1 Hfl.out (by omega) (by omega) ?_; intro u hu; rw [Int.toNat_natCast, hga.out] at hu; cases hu) | ((with_reducible show wpList _ _ _ (Oper.mk _ (Op.indexAddr _ _ _) _ _ _ _ :: Oper.mk _ (Op.load _ _) _ _ _ _ :: _) _ _); refine wl_ldI rfl rfl rfl rfl (fun _ => rfl) rfl rfl p2 Hx3.out (by omega) (by omega) ?_; rw [Int.toNat_natCast, Hxv.out]))
      go_roundw
      case rel => exact ⟨i + 1, by omega, by go_num, by rw [Hst.out], he⟩
      case measure => simp [intOf]; omega
    · obtain rfl : i = m := by omega
      go_wp2
      go_ret2
      exact ⟨by rw [← Hd.out]; rfl, (E0.trans e1).trans he⟩
set_option maxRecDepth 100000 in
set_option maxHeartbeats 4000000 in
theorem spec_ok (cs0 : List Value) (D0 : shModel.T) (cs1 : List Value) (D1 : shTensor.T) (cs2 : List Value) (D2 : List Int) (w : World) (h0 : Rep w shModel cs0 D0) (h1 : Rep w shTensor cs1 D1) (h2 : Rep w (.sl .int) cs2 D2) (f0 : Fit shModel D0) (f1 : Fit shTensor D1) (_ : Fit (.sl .int) D2) : Calls Try.prog 38 #[ofCs shModel cs0, ofCs shTensor cs1, ofCs (.sl .int) cs2] w (Got w (res D0 D1 D2)) := by
  obtain ⟨L0, u0⟩ := D0
  obtain ⟨c0, c1, rfl, k0, rfl⟩ := h0
  obtain ⟨p, c, rfl, _⟩ := rep_val k0
  obtain ⟨p', c', css, he0, L⟩ := lays_of k0 f0.1
  cases he0
  obtain ⟨q, cq, us, rfl, hp, hf, hcq, hcm⟩ := ten_vals h1
  obtain ⟨r, k, xs, u1⟩ := D1
  obtain ⟨p3, c3, rfl, hl3, hlc, hlm⟩ := rep_ints.1 h2
  dsimp only at hp hf hcq hcm ⊢
  simp only [ofCs, Sh.agg, if_true, List.append_nil, List.headD_cons, Bool.false_eq_true, if_false]
  obtain ⟨W0, hW0⟩ : ∃ W0, W0 = (w.alloc (.cells #[.slice p L0.length c] 32)).alloc (.cells #[.int .i64 r, .int .i64 k, .slice q xs.length cq] 45) := ⟨_, rfl⟩
  obtain ⟨E0, s0, b0, b1⟩ := box2 hW0
  have t0 : W0.cell? ⟨w.heap.size + 1, 0, none⟩ = some (.int .i64 r) := cell_of_heap b1 rfl
  have t1 : W0.cell? ⟨w.heap.size + 1, 1, none⟩ = some (.int .i64 k) := cell_of_heap b1 rfl
  have t2 : W0.cell? ⟨w.heap.size + 1, 2, none⟩ = some (.slice q xs.length cq) := cell_of_heap b1 rfl
  have a0 : W0.cell? ⟨w.heap.size, 0, none⟩ = some (.slice p L0.length c) := cell_of_heap b0 rfl
  clear b0 b1
  have hlm2 := Nat.le_trans hlc hlm
  have A := hid (l10Labels_any w.heap.size (w.heap.size + 1) p q p3 L0.length c xs.length cq D2.length c3 r k css L0 D2 W0 (L.ext E0) a0 (Nat.le_trans hcq hcm) t0 t1 t2 (hl3.ext E0) rfl hlm2)
  have hiff := hid (labB_iff (d := (L0, u0)) (x := (r, k, xs, u1)) (l := D2))
  unfold maxLen at hlm2
  cases hb : labB L0 r k xs.length D2
  · rw [res_no (fun h => by have h3 := hiff.out.2 h; dsimp only at h3; rw [hb] at h3; cases h3)]
    rw [hb] at A
    clear k0 L h1 hp hf hcq f0 f1 hiff hb
    generalize L0.length = n0 at *
    generalize xs.length = n1 at *
    go_enter Try.func38, Try.ntmps38
    go_wp2_with fail
    rw [← hW0]
    clear hW0
    refine A.out.mono ?_
    rintro e w1 ⟨rfl, e1⟩
    go_wp2
    go_ret2
    exact ⟨rfl, E0.trans e1⟩
  have hok := hiff.out.1 hb
  rw [hb] at A
  have hok0 := hok
  obtain ⟨⟨g1, g2, g3⟩, g4, g5⟩ := hok
  dsimp only at g1 g2 g3 g4 g5
  have hM := modOk g1
  obtain ⟨R, C, e1, e2, hR, hR1, hC, hC1, hn⟩ := tenB_of g2
  subst e1 e2
  obtain ⟨O, hO, hO1, hO8⟩ := outL_nat hM
  have hBn : D2.length = R := by omega
  have hres : res (L0, u0) (R, C, xs, u1) D2 = (hits D2 (bestF L0 xs C O) R, true) := by
    unfold res
    rw [if_pos hok0]
    dsimp only
    rw [← hO, hBn, Int.toNat_natCast, Int.toNat_natCast]
  rw [hres]
  rw [hn] at t2
  have G := hid (fun W (h : Ext W0 W) => l10Greatest_any w.heap.size (w.heap.size + 1) p q L0.length c cq R C O css L0 us xs W (L.ext (E0.trans h)) hM g3 hO hO1 hO8 (h.cell a0) (h.cell t0) (h.cell t1) (h.cell t2) hR hR1 hC1 hn (by rw [← hn]; exact hcq) hcm (hp.ext (E0.trans h)) hf)
  rw [← hn] at t2
  have HB := hid hBn
  have hzr := fun i (hi : i < R) => lCountCorrect.rowT_rowsM (xs := xs) (c := C) hM g3 hO hn hi
  have HG := hid (fun i (hi : i < R) => show (grtL (rowsM L0 xs C R) O R).getD i 0 = ((bestF L0 xs C O i : Nat) : Int) from by rw [grtL_at hi]; unfold bestF; rw [hzr i hi])
  have HGL := hid (grtL_len (rowsM L0 xs C R) O R)
  have HN1 := hid hn
  clear hzr hok0 hb hiff hres g1 g2 g3 g4 g5 hM hO k0 L h1 hp hf hcq f0 f1 hBn hn
  generalize bestF L0 xs C O = g at *
  generalize grtL (rowsM L0 xs C R) O R = gl at *
  generalize L0.length = n0 at *
  generalize xs.length = n1 at *
  generalize hn2 : D2.length = n2 at *
  have HN2 := hid hn2
  clear hn2
  go_enter Try.func38, Try.ntmps38
  go_wp2_with fail
  rw [← hW0]
  clear hW0
  refine A.out.mono ?_
  rintro e w1 ⟨rfl, e1⟩
  clear A
  go_wp2_with fail
  refine (G.out _ e1).mono ?_
  rintro e w4 ⟨q4, c4, rfl, own4, e4⟩
  rw [HGL.out] at own4 ⊢
  have he4 := e1.trans e4
  have hgc := own_Cs own4
  have hlc4 := hl3.ext (E0.trans he4)
  have hgll := hid (show gl.length = R from HGL.out)
  clear G own4 hl3
  go_wp2
  go_loopw [9, 10] (fun nv iv wr => ∃ (i : Nat), i ≤ n2 ∧ iv = .int .i64 i ∧ nv = .int .i64 (hits D2 g i) ∧ Ext w4 wr) (fun _ iv _ => n2 - (intOf iv).toNat)
  case atStart => exact ⟨0, by omega, rfl, rfl, Ext.refl _⟩
  case round =>
    obtain ⟨i, hi, rfl, rfl, he⟩ := hrel
    by_cases hlt : i < n2
    · have hiR : i < R := by have := HB.out; omega
      have hglr := HG.out i hiR
      have hbd := hits_bd D2 g i
      have hst : hits D2 g (i + 1) = hits D2 g i + if ((g i : Nat) : Int) = D2.getD i 0 then 1 else 0 := rfl
      have p1 := hgc.ext (he.trans (Ext.drew wr))
      have p2 := hlc4.ext (he.trans (Ext.drew wr))
      generalize hlb : D2.getD i 0 = lb at *
      have Hlb := hid hlb
      have Hglr := hid hglr
      have Hst := hid hst
      generalize g i = gr at *
      generalize hits D2 g i = H at *
      have qx : IntKind.i64.wrap (H + 1) = H + 1 := wrap_in _ (by omega) (by omega)
      clear hst hlb hglr
      by_cases hq : (gr : Int) = lb
      all_goals
        first
          | (have hqq := beq_t hq)
          | (have hqq := beq_f hq)
        have Hq := hid hq
        clear hq
        go_wp2
        refine wp_region_xall (F := fun _ _ _ => False) (by kernel_rfl) (by kernel_rfl) (by kernel_rfl) ?_
        intro wf hwf
        repeat (first
          | (refine x_skip rfl ?_; simp only [Act.put, ev_tmp, List.setIfInBounds_toArray, List.set_cons_succ, List.set_cons_zero, List.getD_cons_succ, List.getD_cons_zero])
          | (refine x_mv rfl rfl rfl ?_; simp only [Act.put, ev_tmp, List.setIfInBounds_toArray, List.set_cons_succ, List.set_cons_zero, List.getD_cons_succ, List.getD_cons_zero])
          | (refine x_as rfl rfl rfl ?_; simp only [Act.put, ev_tmp, List.setIfInBounds_toArray, List.set_cons_succ, List.set_cons_zero, List.getD_cons_succ, List.getD_cons_zero])
          | ((with_reducible show wpX _ _ _ _ _ _ (Oper.mk _ (Op.indexAddr _ _ _) _ _ _ _ :: Oper.mk _ (Op.load _ _) _ _ _ _ :: _) _); refine x_ldI rfl rfl (fun _ => rfl) rfl (fun _ => rfl) rfl rfl p1 hgll.out (by omega) (by omega) ?_; rw [Int.toNat_natCast, Hglr.out]; simp only [Act.put, ev_tmp, List.setIfInBounds_toArray, List.set_cons_succ, List.set_cons_zero, List.getD_cons_succ, List.getD_cons_zero])
          | ((with_reducible show wpX _ _ _ _ _ _ (Oper.mk _ (Op.indexAddr _ _ _) _ _ _ _ :: Oper.mk _ (Op.load _ _) _ _ _ _ :: _) _); refine x_ldI rfl rfl (fun _ => rfl) rfl (fun _ => rfl) rfl rfl p2 HN2.out (by omega) (by omega) ?_; rw [Int.toNat_natCast, Hlb.out]; simp only [Act.put, ev_tmp, List.setIfInBounds_toArray, List.set_cons_succ, List.set_cons_zero, List.getD_cons_succ, List.getD_cons_zero])
          | (refine x_run rfl fun K hK w1 hw1 => ?_; go_simp; refine hK _ ?_; clear hK K  hw1 w1))
        refine x_nil ?_
        have eW := (he.trans (Ext.drew wr)).trans hwf
        go_wp2
        go_roundw
        case measure => simp [intOf]; omega
        case rel =>
          refine ⟨i + 1, by omega, by go_num, ?_, eW⟩
          rw [Hst.out]
          first
            | (rw [if_pos Hq.out])
            | (rw [if_neg Hq.out, Int.add_zero])
    · obtain rfl : i = n2 := by omega
      have hR0 : i = R := HB.out
      subst hR0
      go_wp2
      go_ret2
      exact ⟨rfl, (E0.trans he4).trans he⟩
end Go.Proofs.Ytangnigplachdaa.lCountLabels
