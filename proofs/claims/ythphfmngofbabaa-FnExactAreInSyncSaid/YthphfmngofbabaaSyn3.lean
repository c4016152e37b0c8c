/- AreInSync of the program and of the reference, as the law asks for them. -/
import Derived.Test.YthphfmngofbabaaSyn2
namespace Go.Proofs.Ythphfmngofbabaa.lAreInSync
set_option linter.unusedSimpArgs false
set_option linter.unusedVariables false
open Go.RowKit

def lay0 (D : List shModel.T) (i : Nat) : List shLayer.T := (D[i]?.map fun d => (d.1 : List shLayer.T)).getD []
theorem lay0_at {D : List shModel.T} {i : Nat} (h : i < D.length) : lay0 D i = D[i].1 := by unfold lay0; simp [h]
/-- What is wrong with the model i. -/
def bad (D : List shModel.T) (i : Nat) : Bool := !modB (lay0 D i) || !eqT (.sl shLayer) (lay0 D i) (lay0 D 0)
def res (D : List shModel.T) : Bool := decide (1 ≤ D.length) && (decide (D.length ≤ 8) && !anyTo (bad D) D.length)

set_option maxRecDepth 100000 in
set_option maxHeartbeats 4000000 in
theorem impl_ok (cs0 : List Value) (D0 : shModelS.T) (w : World) (h0 : Rep w shModelS cs0 D0) (f0 : Fit shModelS D0) : Calls Try.prog 35 #[ofCs shModelS cs0] w (RetB w (res D0)) := by
  obtain ⟨p, c, css, rfl, a2, a3, a4, a5, a6, a7⟩ := rep_sl h0
  have hm := Nat.le_trans a3 a4
  simp only [ofCs, Sh.agg, List.headD_cons, Bool.false_eq_true, if_false]
  unfold res
  generalize hB : anyTo (bad D0) D0.length = B
  by_cases h1 : 1 ≤ D0.length
  rotate_left 1
  · rw [decide_eq_false h1, Bool.false_and]
    clear a2 a5 a7 h0 f0 hB
    unfold maxLen at hm
    generalize D0.length = n at *
    go_enter Try.func35, Try.ntmps35
    go_wp2
    go_ret
    exact ⟨rfl, Ext.alloc _ _⟩
  by_cases h8 : D0.length ≤ 8
  rotate_left 1
  · rw [decide_eq_false h8, Bool.false_and, Bool.and_false]
    clear a2 a5 a7 h0 f0 hB
    unfold maxLen at hm
    generalize D0.length = n at *
    go_enter Try.func35, Try.ntmps35
    go_wp2
    go_ret
    exact ⟨rfl, Ext.alloc _ _⟩
  rw [decide_eq_true h1, decide_eq_true h8, Bool.true_and, Bool.true_and]
  have C := hid (fun W (h : Ext w W) (bx : Nat) (gx : W.cell? ⟨bx, 0, none⟩ = some (.slice p D0.length c)) => containsFuncM_any 90 #[.pointer (some ⟨bx, 0, none⟩)] (by intro args w; kernel_rfl) p D0.length c css (bad D0) W a7 hm (a2.ext h) a6 (by
    intro i ci W2 hci hW
    have hi : i < D0.length := by rw [← a7]; exact (List.getElem?_eq_some_iff.1 hci).1
    have hx := h.trans hW
    obtain ⟨pi, c1, cs1, e1, r1, g1, L1⟩ := mod_at a5 f0 hi
    obtain ⟨p0, c2, cs2, e2, r2, g2, L2⟩ := mod_at a5 f0 (i := 0) (by omega)
    rw [hci] at e1
    cases e1
    have hbd : bad D0 i = (!modB (D0[i].1 : List shLayer.T) || !eqT (.sl shLayer) D0[i].1 (D0[0]'(by omega)).1) := by unfold bad; rw [lay0_at hi, lay0_at (by omega)]
    rw [hbd, ofCs_agg (s := shModel) rfl]
    exact inSync_any bx p D0.length c css pi p0 _ c1 _ c2 cs1 _ _ W2 (a2.ext hx) a6 a7 (by omega) e2 (hW.cell gx) (L1.ext hx) (r1.ext hx) (r2.ext hx) g1 g2))
  rw [hB] at C
  unfold maxLen at hm
  clear a2 a5 a6 a7 h0 f0 hB
  generalize D0.length = n at *
  go_enter Try.func35, Try.ntmps35
  go_wp2_with fail
  refine (C.out _ (Ext.alloc _ _) _ (by simp)).mono ?_
  rintro e w1 ⟨rfl, e1⟩
  go_wp2
  go_ret
  exact ⟨rfl, (Ext.alloc _ _).trans e1⟩

set_option maxRecDepth 100000 in
set_option maxHeartbeats 4000000 in
theorem spec_ok (cs0 : List Value) (D0 : shModelS.T) (w : World) (h0 : Rep w shModelS cs0 D0) (f0 : Fit shModelS D0) : Calls Try.prog 33 #[ofCs shModelS cs0] w (RetB w (res D0)) := by
  obtain ⟨p, c, css, rfl, a2, a3, a4, a5, a6, a7⟩ := rep_sl h0
  have hm := Nat.le_trans a3 a4
  unfold maxLen at hm
  simp only [ofCs, Sh.agg, List.headD_cons, Bool.false_eq_true, if_false]
  generalize hR : res D0 = R
  unfold res at hR
  have HL := hid (rfl : D0.length = D0.length)
  generalize hn : D0.length = n at *
  have HN := hid hn
  by_cases hin : inB (n : Int) 1 8 = true
  rotate_left 1
  · have hin2 : inB (n : Int) 1 8 = false := by simpa using hin
    have HI := hid hin2
    have hR2 : R = false := by
      rw [← hR]
      rw [inB_false] at hin2
      by_cases h1 : 1 ≤ n
      · rw [decide_eq_false (show ¬ n ≤ 8 by omega), Bool.false_and, Bool.and_false]
      · rw [decide_eq_false h1, Bool.false_and]
    subst hR2
    clear a2 a5 a7 h0 f0 hR hin hin2 hn HN
    go_enter Try.func33, Try.ntmps33
    go_wp2_with (refine (l00In_any _ _ _ _).mono ?_; rintro e w1 ⟨rfl, rfl⟩; rw [HI.out])
    go_ret
    exact ⟨rfl, Ext.refl _⟩
  have HI := hid hin
  rw [inB_true] at hin
  have hR2 : R = !anyTo (bad D0) n := by
    rw [← hR, decide_eq_true (show 1 ≤ n by omega), decide_eq_true (show n ≤ 8 by omega), Bool.true_and, Bool.true_and]
  have HR := hid hR2
  clear hR hR2 HL hn h0
  go_enter Try.func33, Try.ntmps33
  go_wp2_with (refine (l00In_any _ _ _ _).mono ?_; rintro e w1 ⟨rfl, rfl⟩; rw [HI.out])
  go_loopw [3] (fun iv wr => ∃ i : Nat, i ≤ n ∧ iv = .int .i64 i ∧ Hid (∀ j, j < i → bad D0 j = false) ∧ Ext w wr) (fun iv _ => n - (intOf iv).toNat)
  case atStart => exact ⟨0, by omega, rfl, hid (fun j hj => absurd hj (Nat.not_lt_zero j)), Ext.refl w⟩
  case round =>
    obtain ⟨i, hi, rfl, Hall, he⟩ := hrel
    by_cases hlt : i < n
    · have hil : i < D0.length := by rw [HN.out]; exact hlt
      have h0l : 0 < D0.length := by omega
      obtain ⟨pi, c1, cs1, e1, r1, g1, L1⟩ := mod_at a5 f0 hil
      obtain ⟨p0, c2, cs2, e2, r2, g2, L2⟩ := mod_at a5 f0 h0l
      have hs1 := a2.some_of a6 (by decide) (show 0 < css.length by omega)
      have hbd : bad D0 i = (!modB (D0[i].1 : List shLayer.T) || !eqT (.sl shLayer) D0[i].1 (D0[0]'h0l).1) := by unfold bad; rw [lay0_at hil, lay0_at h0l]
      have h0b : 0 < i → modB ((D0[0]'h0l).1 : List shLayer.T) = true := by
        intro hpos
        have := Hall.out 0 hpos
        unfold bad at this
        rw [lay0_at h0l] at this
        simp only [Bool.or_eq_false_iff, Bool.not_eq_false'] at this
        exact this.1
      have h00 : i = 0 → D0[i] = D0[0]'h0l := by intro h; subst h; rfl
      generalize hli : (D0[i].1 : List shLayer.T) = li at *
      generalize hl0 : ((D0[0]'h0l).1 : List shLayer.T) = l0 at *
      have hsm : modB li = true → sameM l0 li = eqT (.sl shLayer) li l0 := by
        intro hv
        rcases Nat.eq_zero_or_pos i with hz | hz
        · have : li = l0 := by rw [← hli, ← hl0, h00 hz]
          subst this
          exact sameM_eq hv hv
        · exact sameM_eq (h0b hz) hv
      have CV := hid (fun W (h : Ext w W) => calls_retB (l03Is_any (sp := (adr p (i * 1)).spot) (adr p (i * 1)).block (adr p (i * 1)).off pi _ c1 li cs1 W (fcell a2 a6 a7 hlt e1 0 h rfl) L1.len L1.le (L1.cs.ext h) (L1.ext h).all L1.size L1.cnt))
      have CS := fun W (h : Ext w W) (x : (parF l0).length ≤ 1048576) (y : (parF li).length ≤ 1048576) => calls_retB (l10Same_any (sa := (adr p (0 * 1)).spot) (sb := (adr p (i * 1)).spot) (adr p (0 * 1)).block (adr p (0 * 1)).off (adr p (i * 1)).block (adr p (i * 1)).off p0 pi _ _ c2 c1 cs2 cs1 l0 li W (L2.ext h) (L1.ext h) x y (fcell a2 a6 a7 (by omega) e2 0 h rfl) (fcell a2 a6 a7 hlt e1 0 h rfl))
      have hpd := (a2.ext he).ext (Ext.drew wr)
      cases hv : modB li
      · rw [hv] at CV
        have Hbd := hid (show bad D0 i = true by rw [hbd, hv]; rfl)
        have hR2 : R = false := by rw [HR.out, (anyTo_true (q := bad D0)).2 ⟨i, hlt, Hbd.out⟩]; rfl
        subst hR2
        clear CS hsm hbd h0b h00 hv L1 L2 r1 r2 g1 g2
        go_wp2
        refine wp_region_xall (F := fun _ _ u => u = .bool false) (by kernel_rfl) (by kernel_rfl) (by kernel_rfl) ?_
        intro wf hwf
        repeat (first
          | (refine x_skip rfl ?_; simp only [Act.put, ev_tmp, List.setIfInBounds_toArray, List.set_cons_succ, List.set_cons_zero, List.getD_cons_succ, List.getD_cons_zero])
          | (refine x_mv rfl rfl rfl ?_; simp only [Act.put, ev_tmp, List.setIfInBounds_toArray, List.set_cons_succ, List.set_cons_zero, List.getD_cons_succ, List.getD_cons_zero])
          | (refine x_as rfl rfl rfl ?_; simp only [Act.put, ev_tmp, List.setIfInBounds_toArray, List.set_cons_succ, List.set_cons_zero, List.getD_cons_succ, List.getD_cons_zero])
          | ((with_reducible show wpX _ _ _ _ _ _ (Oper.mk _ (Op.indexAddr _ _ _) _ _ _ _ :: _) _); refine x_idx (t := 61) (s := 1) (i := (i : Int)) rfl rfl rfl rfl hs1 (by omega) (by omega) ?_; rw [Int.toNat_natCast]; simp only [Act.put, ev_tmp, List.setIfInBounds_toArray, List.set_cons_succ, List.set_cons_zero, List.getD_cons_succ, List.getD_cons_zero])
          | ((with_reducible show wpX _ _ _ _ _ _ (Oper.mk _ (Op.call _) _ _ _ _ :: _) _); refine x_callf (f := 80) (args := #[.pointer (some (adr p (i * 1)))]) rfl rfl Try.func80 rfl (by kernel_rfl) ?_ ?_ ?_; (focus (simp [Act.eval]; done)); (focus (intro w1 hw1; exact (CV.out w1 ((he.trans (Ext.drew _)).trans hw1)))); rintro u w3 e3 e4 rfl; simp only [Act.put, ev_tmp, List.setIfInBounds_toArray, List.set_cons_succ, List.set_cons_zero, List.getD_cons_succ, List.getD_cons_zero])
          | (refine x_run rfl fun K hK w1 hw1 => ?_; go_simp; refine hK _ ?_; clear hK K  hw1 w1))
        refine x_nil ?_
        go_wp2
        go_ret
        exact ⟨rfl, (he.trans (Ext.drew _)).trans hwf⟩
      · rw [hv] at CV
        have hp1 := modB_par hv
        have hp0 : (parF l0).length ≤ 432 := by
          rcases Nat.eq_zero_or_pos i with hz | hz
          · have : li = l0 := by rw [← hli, ← hl0, h00 hz]
            rw [← this]; exact hp1
          · exact modB_par (h0b hz)
        have CS2 := hid (fun W h => CS W h (by omega) (by omega))
        rw [hsm hv] at CS2
        rw [hv] at hbd
        generalize eqT (.sl shLayer) li l0 = E at *
        clear CS hsm h0b h00 hv L1 L2 r1 r2 g1 g2 hp1 hp0
        obtain ⟨F, hF⟩ : ∃ F : Option Tmp → World → Value → Prop, F = fun d _ u => (match d with | some 17 => u = .bool true | _ => u = .bool E) := ⟨_, rfl⟩
        have HF := hid hF
        have Hbd := hid hbd
        clear hF hbd
        cases E
        · have hR2 : R = false := by rw [HR.out, (anyTo_true (q := bad D0)).2 ⟨i, hlt, by rw [Hbd.out]; rfl⟩]; rfl
          subst hR2
          go_wp2
          refine wp_region_xall (F := F) (by kernel_rfl) (by kernel_rfl) (by kernel_rfl) ?_
          intro wf hwf
          repeat (first
            | (refine x_skip rfl ?_; simp only [Act.put, ev_tmp, List.setIfInBounds_toArray, List.set_cons_succ, List.set_cons_zero, List.getD_cons_succ, List.getD_cons_zero])
            | (refine x_mv rfl rfl rfl ?_; simp only [Act.put, ev_tmp, List.setIfInBounds_toArray, List.set_cons_succ, List.set_cons_zero, List.getD_cons_succ, List.getD_cons_zero])
            | (refine x_as rfl rfl rfl ?_; simp only [Act.put, ev_tmp, List.setIfInBounds_toArray, List.set_cons_succ, List.set_cons_zero, List.getD_cons_succ, List.getD_cons_zero])
            | ((with_reducible show wpX _ _ _ _ _ _ (Oper.mk _ (Op.indexAddr _ _ _) _ _ _ _ :: _) _); refine x_idx (t := 61) (s := 1) (i := (i : Int)) rfl rfl rfl rfl hs1 (by omega) (by omega) ?_; rw [Int.toNat_natCast]; simp only [Act.put, ev_tmp, List.setIfInBounds_toArray, List.set_cons_succ, List.set_cons_zero, List.getD_cons_succ, List.getD_cons_zero])
            | ((with_reducible show wpX _ _ _ _ _ _ (Oper.mk _ (Op.indexAddr _ _ _) _ _ _ _ :: _) _); refine x_idx (t := 61) (s := 1) (i := (0 : Int)) rfl rfl rfl rfl hs1 (by omega) (by omega) ?_; rw [show (0 : Int).toNat = 0 from rfl]; simp only [Act.put, ev_tmp, List.setIfInBounds_toArray, List.set_cons_succ, List.set_cons_zero, List.getD_cons_succ, List.getD_cons_zero])
            | ((with_reducible show wpX _ _ _ _ _ _ (Oper.mk _ (Op.call _) _ _ _ _ :: _) _); refine x_callf (f := 80) (args := #[.pointer (some (adr p (i * 1)))]) rfl rfl Try.func80 rfl (by kernel_rfl) ?_ ?_ ?_; (focus (simp [Act.eval]; done)); (focus (intro w1 hw1; exact (by rw [HF.out]; exact CV.out w1 ((he.trans (Ext.drew _)).trans hw1)))); rintro u w3 e3 e4 hu; simp only [HF.out] at hu; subst hu; simp only [Act.put, ev_tmp, List.setIfInBounds_toArray, List.set_cons_succ, List.set_cons_zero, List.getD_cons_succ, List.getD_cons_zero])
            | ((with_reducible show wpX _ _ _ _ _ _ (Oper.mk _ (Op.call _) _ _ _ _ :: _) _); refine x_callf (f := 88) (args := #[.pointer (some (adr p (0 * 1))), .pointer (some (adr p (i * 1)))]) rfl rfl Try.func88 rfl (by kernel_rfl) ?_ ?_ ?_; (focus (simp [Act.eval]; done)); (focus (intro w1 hw1; exact (by rw [HF.out]; exact CS2.out w1 ((he.trans (Ext.drew _)).trans hw1)))); rintro u w3 e3 e4 hu; simp only [HF.out] at hu; subst hu; simp only [Act.put, ev_tmp, List.setIfInBounds_toArray, List.set_cons_succ, List.set_cons_zero, List.getD_cons_succ, List.getD_cons_zero])
            | (refine x_run rfl fun K hK w1 hw1 => ?_; go_simp; refine hK _ ?_; clear hK K  hw1 w1))
          refine x_nil ?_
          go_wp2
          go_ret
          exact ⟨rfl, (he.trans (Ext.drew _)).trans hwf⟩
        · go_wp2
          refine wp_region_xall (F := F) (by kernel_rfl) (by kernel_rfl) (by kernel_rfl) ?_
          intro wf hwf
          repeat (first
            | (refine x_skip rfl ?_; simp only [Act.put, ev_tmp, List.setIfInBounds_toArray, List.set_cons_succ, List.set_cons_zero, List.getD_cons_succ, List.getD_cons_zero])
            | (refine x_mv rfl rfl rfl ?_; simp only [Act.put, ev_tmp, List.setIfInBounds_toArray, List.set_cons_succ, List.set_cons_zero, List.getD_cons_succ, List.getD_cons_zero])
            | (refine x_as rfl rfl rfl ?_; simp only [Act.put, ev_tmp, List.setIfInBounds_toArray, List.set_cons_succ, List.set_cons_zero, List.getD_cons_succ, List.getD_cons_zero])
            | ((with_reducible show wpX _ _ _ _ _ _ (Oper.mk _ (Op.indexAddr _ _ _) _ _ _ _ :: _) _); refine x_idx (t := 61) (s := 1) (i := (i : Int)) rfl rfl rfl rfl hs1 (by omega) (by omega) ?_; rw [Int.toNat_natCast]; simp only [Act.put, ev_tmp, List.setIfInBounds_toArray, List.set_cons_succ, List.set_cons_zero, List.getD_cons_succ, List.getD_cons_zero])
            | ((with_reducible show wpX _ _ _ _ _ _ (Oper.mk _ (Op.indexAddr _ _ _) _ _ _ _ :: _) _); refine x_idx (t := 61) (s := 1) (i := (0 : Int)) rfl rfl rfl rfl hs1 (by omega) (by omega) ?_; rw [show (0 : Int).toNat = 0 from rfl]; simp only [Act.put, ev_tmp, List.setIfInBounds_toArray, List.set_cons_succ, List.set_cons_zero, List.getD_cons_succ, List.getD_cons_zero])
            | ((with_reducible show wpX _ _ _ _ _ _ (Oper.mk _ (Op.call _) _ _ _ _ :: _) _); refine x_callf (f := 80) (args := #[.pointer (some (adr p (i * 1)))]) rfl rfl Try.func80 rfl (by kernel_rfl) ?_ ?_ ?_; (focus (simp [Act.eval]; done)); (focus (intro w1 hw1; exact (by rw [HF.out]; exact CV.out w1 ((he.trans (Ext.drew _)).trans hw1)))); rintro u w3 e3 e4 hu; simp only [HF.out] at hu; subst hu; simp only [Act.put, ev_tmp, List.setIfInBounds_toArray, List.set_cons_succ, List.set_cons_zero, List.getD_cons_succ, List.getD_cons_zero])
            | ((with_reducible show wpX _ _ _ _ _ _ (Oper.mk _ (Op.call _) _ _ _ _ :: _) _); refine x_callf (f := 88) (args := #[.pointer (some (adr p (0 * 1))), .pointer (some (adr p (i * 1)))]) rfl rfl Try.func88 rfl (by kernel_rfl) ?_ ?_ ?_; (focus (simp [Act.eval]; done)); (focus (intro w1 hw1; exact (by rw [HF.out]; exact CS2.out w1 ((he.trans (Ext.drew _)).trans hw1)))); rintro u w3 e3 e4 hu; simp only [HF.out] at hu; subst hu; simp only [Act.put, ev_tmp, List.setIfInBounds_toArray, List.set_cons_succ, List.set_cons_zero, List.getD_cons_succ, List.getD_cons_zero])
            | (refine x_run rfl fun K hK w1 hw1 => ?_; go_simp; refine hK _ ?_; clear hK K  hw1 w1))
          refine x_nil ?_
          have he' := (he.trans (Ext.drew wr)).trans hwf
          clear hwf
          go_wp2
          go_roundw
          case rel => exact ⟨i + 1, by omega, by go_num, hid fun j hj => (if hji : j = i then hji ▸ (by rw [Hbd.out]; rfl) else Hall.out j (by omega)), he'⟩
          case measure => simp [intOf]; omega
    · obtain rfl : i = n := by omega
      have hR2 : R = true := by rw [HR.out, anyTo_false Hall.out]; rfl
      subst hR2
      go_wp2
      go_ret
      exact ⟨rfl, he⟩
end Go.Proofs.Ythphfmngofbabaa.lAreInSync
