/- The harness on lists: Int64SS. -/
import Derived.Test.YtmcafdcabbighaaPlain
namespace Go.Proofs.Ytmcafdcabbighaa
set_option linter.unusedSimpArgs false
set_option linter.unusedVariables false
open Go.RowKit

abbrev shInt64SS : Sh := .sl (.sl .int)
-- the slice type is an instance of Ty
instance elInt64SS : ElTy Try.prog 29 (.sl .int) := ⟨by kernel_rfl, by kernel_rfl⟩

set_option maxRecDepth 100000 in
set_option maxHeartbeats 1000000 in
theorem eqInt64SS_ok : EqOk 34 shInt64SS := by
  intro cs cs' l w hu hv hn
  obtain ⟨p, c, css, rfl, h2, h3, h4, h5, h6, h7⟩ := rep_sl hu
  obtain ⟨q, d, css', rfl, g2, g3, g4, g5, g6, g7⟩ := rep_sl hv
  have hle := Nat.le_trans (tot_len l) hn
  generalize hL : l.length = n at *
  have HL := hid hL
  clear hL
  simp only [ofCs, Sh.agg, List.headD_cons, Bool.false_eq_true, if_false]
  go_enter Try.func34, Try.ntmps34
  go_wp2
  go_loopw [5] (fun iv wr => ∃ i : Nat, i ≤ n ∧ iv = .int .i64 i ∧ Ext w wr) (fun iv _ => n - (intOf iv).toNat)
  case atStart => exact ⟨0, by omega, rfl, Ext.refl w⟩
  case round =>
    obtain ⟨i, hi, rfl, he⟩ := hrel
    by_cases hlt : i < n
    · have hp' := (h2.ext he).ext (Ext.drew wr)
      have hq' := (g2.ext he).ext (Ext.drew wr)
      have hil : i < l.length := by rw [HL.out]; exact hlt
      obtain ⟨ci, hci, ri⟩ := h5.get i l[i] (by simp)
      obtain ⟨di, hdi, si⟩ := g5.get i l[i] (by simp)
      have hs1 := h2.some_of h6 (by decide) (show 0 < css.length by omega)
      have hs2 := g2.some_of g6 (by decide) (show 0 < css'.length by omega)
      have hb := Nat.le_trans (Nat.le_trans (Nat.le_add_right _ _) (tot_get l i hil)) hn
      go_wp2_with fail
      refine wp_region_xall (F := fun _ _ u => u = .bool true) (by kernel_rfl) (by kernel_rfl) (by kernel_rfl) ?_
      intro wf hwf
      refine x_mv rfl rfl rfl ?_
      simp only [Act.put, ev_tmp, List.setIfInBounds_toArray, List.set_cons_succ, List.set_cons_zero, List.getD_cons_succ, List.getD_cons_zero]
      refine x_mv rfl rfl rfl ?_
      simp only [Act.put, ev_tmp, List.setIfInBounds_toArray, List.set_cons_succ, List.set_cons_zero, List.getD_cons_succ, List.getD_cons_zero]
      refine x_idxloadE (s := (.sl .int)) (j := i) rfl rfl (fun _ => rfl) rfl (fun _ => rfl) rfl rfl rfl hp' h6 h7 hlt hs1 hci ?_
      simp only [Act.put, ev_tmp, List.setIfInBounds_toArray, List.set_cons_succ, List.set_cons_zero, List.getD_cons_succ, List.getD_cons_zero]
      refine x_mv rfl rfl rfl ?_
      simp only [Act.put, ev_tmp, List.setIfInBounds_toArray, List.set_cons_succ, List.set_cons_zero, List.getD_cons_succ, List.getD_cons_zero]
      refine x_mv rfl rfl rfl ?_
      simp only [Act.put, ev_tmp, List.setIfInBounds_toArray, List.set_cons_succ, List.set_cons_zero, List.getD_cons_succ, List.getD_cons_zero]
      refine x_idxloadE (s := (.sl .int)) (j := i) rfl rfl (fun _ => rfl) rfl (fun _ => rfl) rfl rfl rfl hq' g6 g7 hlt hs2 hdi ?_
      simp only [Act.put, ev_tmp, List.setIfInBounds_toArray, List.set_cons_succ, List.set_cons_zero, List.getD_cons_succ, List.getD_cons_zero]
      refine x_callf (f := 21) (args := #[ofCs (.sl .int) ci, ofCs (.sl .int) di]) rfl rfl Try.func21 rfl (by kernel_rfl) (by simp [Act.eval]) (fun w1 hw1 => (eqInt64S_ok ci di l[i] w1 (((ri.ext he).ext (Ext.drew wr)).ext hw1) (((si.ext he).ext (Ext.drew wr)).ext hw1) hb).mono fun e w3 h => ⟨_, h.1, h.2, rfl⟩) ?_
      rintro u w3 _ _ rfl
      simp only [Act.put, ev_tmp, List.setIfInBounds_toArray, List.set_cons_succ, List.set_cons_zero, List.getD_cons_succ, List.getD_cons_zero]
      refine x_run rfl fun K hK w1 _ => ?_
      go_simp
      refine hK _ ?_
      clear hK K
      refine x_nil ?_
      have he' := (he.trans (Ext.drew wr)).trans hwf
      clear hwf hp' hq' he
      go_wp2
      go_roundw
      case rel => exact ⟨i + 1, by omega, by go_num, he'⟩
      case measure => simp [intOf]; omega
    · obtain rfl : i = n := by omega
      go_wp2
      go_ret
      exact ⟨rfl, he⟩



set_option maxRecDepth 100000 in
set_option maxHeartbeats 1000000 in
theorem markInt64SS_ok : MarkOk 35 shInt64SS := by
  intro cs l bs k w hu hnd hk0 hk
  obtain ⟨p, c, css, bss, rfl, h2, h3, h4, h5, rfl⟩ := own_sl.1 hu
  have hle := Nat.le_trans h3 h4
  have hk' : k + 64 * (tot (.sl (.sl .int)) l : Int) ≤ 68719476736 := hk
  have h6 := h5.all
  have h7 := h5.1
  obtain ⟨nd1, nd2, nd3, nd4⟩ := nodup_split hnd
  generalize hL : l.length = n at *
  have HL := hid hL
  clear hL hu
  unfold maxLen at hle
  simp only [ofCs, Sh.agg, List.headD_cons, Bool.false_eq_true, if_false]
  go_enter Try.func35, Try.ntmps35
  go_wp2
  go_loopw [1, 5] (fun kv iv wr => ∃ i : Nat, i ≤ n ∧ iv = .int .i64 i ∧ kv = .int .i64 (mkK (.sl .int) l k i) ∧ OwnRow wr p n c css.flatten ∧ Hid (OwnEs wr (.sl .int) css bss (mkTo (.sl .int) l k i)) ∧ Chg (fun b => b ∈ blocksOf p ++ bss.flatten) w wr) (fun _ iv _ => n - (intOf iv).toNat)
  case atStart => exact ⟨0, by omega, rfl, by rw [mkK_zero], h2, by rw [mkTo_zero]; exact h5, Chg.refl _ _⟩
  case round =>
    clear h2 h5
    obtain ⟨i, hi, rfl, rfl, h2, H5, hch⟩ := hrel
    by_cases hlt : i < n
    · have hil : i < l.length := by rw [HL.out]; exact hlt
      obtain ⟨b1, b2⟩ := mkK_bd (.sl .int) (by decide) l k i hil
      obtain ⟨k1, k2⟩ := mk_succ (.sl .int) l k i hil
      have hbl : bss.length = n := by have := H5.out.2.1; rw [length_mkTo, HL.out] at this; exact this
      have hci : css[i]? = some css[i] := by simp
      have hbi : bss[i]? = some bss[i] := by simp
      have ow := H5.out.2.2 i css[i] bss[i] l[i] hci hbi (mkTo_get _ _ _ _ hil)
      have hs1 := h2.cs.some_of h6 (by decide) (show 0 < css.length by omega)
      have K1 := hid k1
      have K2 := hid k2
      clear k1 k2
      generalize mkK (.sl .int) l k i = ki at *
      go_wp2_with (refine wl_idxloadE (s := (.sl .int)) (j := i) rfl rfl rfl rfl (fun _ => rfl) rfl rfl rfl h2.cs h6 h7 hlt hs1 hci ?_)
      refine (markInt64S_ok css[i] l[i] bss[i] ki _ ow (flat_nodup nd2 hbi) (by omega) (by omega)).mono ?_
      rintro e w1 ⟨rfl, ow1, c1⟩
      have hin : ∀ b ∈ bss[i], b ∈ bss.flatten := fun b hb => List.mem_flatten.2 ⟨_, List.getElem_mem _, hb⟩
      have own2 := h2.chg c1 (fun b hb h => nd3 b hb (hin b h))
      have es2 := H5.out.upd c1 hbi (fun j bj hj hbj => flat_apart nd2 hbi hbj hj) ow1
      have hc2 := hch.trans (c1.mono fun b hb => List.mem_append.2 (.inr (hin b hb)))
      have hset : css.set i css[i] = css := List.set_getElem_self _
      go_wp2
      go_roundw
      case rel => exact ⟨i + 1, by omega, by go_num, by rw [K1.out]; rfl, own2, by rw [K2.out]; rw [hset] at es2; exact es2, hc2⟩
      case measure => simp [intOf]; omega
    · obtain rfl : i = n := by omega
      go_wp2
      go_ret
      have k1 := HL.out
      have k3 : mkTo (.sl .int) l k i = (mkV shInt64SS l k).1 := by rw [← k1]; exact mkTo_all _ l k
      have k4 : mkK (.sl .int) l k i = (mkV shInt64SS l k).2 := by rw [← k1]; exact mkK_all _ l k
      have k5 : (mkV shInt64SS l k).1.length = i := by rw [← k3, length_mkTo]; exact k1
      refine ⟨by rw [k4]; rfl, own_sl.2 ⟨p, c, css, bss, by rw [k5], by rw [k5]; exact h2, by rw [k5]; exact h3, h4, by rw [← k3]; exact H5.out, rfl⟩, hch⟩

set_option maxRecDepth 100000 in
set_option maxHeartbeats 1000000 in
theorem heldInt64SS_ok : HeldOk 36 shInt64SS := by
  intro cs l k w hu hk0 hk
  have hm : (mkV shInt64SS l k).1.length = l.length := length_carry _ l k
  obtain ⟨p, c, css, rfl, h2, h3, h4, h5, h6, h7⟩ := rep_sl hu
  have hle := Nat.le_trans h3 h4
  have hk' : k + 64 * (tot (.sl (.sl .int)) l : Int) ≤ 68719476736 := hk
  rw [hm] at h3 hle h7 ⊢
  generalize hL : l.length = n at *
  have HL := hid hL
  clear hL hu
  unfold maxLen at hle
  simp only [ofCs, Sh.agg, List.headD_cons, Bool.false_eq_true, if_false]
  go_enter Try.func36, Try.ntmps36
  go_wp2
  go_loopw [1, 5] (fun kv iv wr => ∃ i : Nat, i ≤ n ∧ iv = .int .i64 i ∧ kv = .int .i64 (mkK (.sl .int) l k i) ∧ Ext w wr) (fun _ iv _ => n - (intOf iv).toNat)
  case atStart => exact ⟨0, by omega, rfl, by rw [mkK_zero], Ext.refl _⟩
  case round =>
    obtain ⟨i, hi, rfl, rfl, he⟩ := hrel
    by_cases hlt : i < n
    · have hil : i < l.length := by rw [HL.out]; exact hlt
      obtain ⟨b1, b2⟩ := mkK_bd (.sl .int) (by decide) l k i hil
      obtain ⟨k1, _⟩ := mk_succ (.sl .int) l k i hil
      obtain ⟨ci, hci, ri⟩ := h5.get i _ (mkV_get (.sl .int) l k i hil)
      have hs1 := h2.some_of h6 (by decide) (show 0 < css.length by omega)
      have hp' := h2.ext he
      have K1 := hid k1
      have hki := (mkE_bd (.sl .int) (by decide) l[i] (mkK (.sl .int) l k i)).1
      clear k1
      generalize mkK (.sl .int) l k i = ki at *
      go_wp2_with (refine wl_idxloadE (s := (.sl .int)) (j := i) rfl rfl rfl rfl (fun _ => rfl) rfl rfl rfl hp' h6 h7 hlt hs1 hci ?_)
      refine (heldInt64S_ok ci l[i] ki _ (ri.ext he) (by omega) (by omega)).mono ?_
      rintro e w1 ⟨rfl, e1⟩
      have hkj : 0 ≤ (mkV (.sl .int) l[i] ki).2 := Int.le_trans (Int.le_trans hk0 b1) hki
      go_wp2
      go_roundw
      case rel => exact ⟨i + 1, by omega, by go_num, by rw [K1.out]; rfl, he.trans e1⟩
      case measure => simp [intOf]; omega
    · obtain rfl : i = n := by omega
      go_wp2
      go_ret
      have k1 := HL.out
      have k4 : mkK (.sl .int) l k i = (mkV shInt64SS l k).2 := by rw [← k1]; exact mkK_all _ l k
      exact ⟨by rw [k4]; rfl, he⟩
end Go.Proofs.Ytmcafdcabbighaa
