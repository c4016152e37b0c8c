/- The harness on lists: PlanStepS. -/
import Derived.Test.YtlimabbeaimdgaaKb
import Derived.Test.YtlimabbeaimdgaaHPlanStep
namespace Go.Proofs.Ytlimabbeaimdgaa
set_option linter.unusedSimpArgs false
set_option linter.unusedVariables false
open Go.RowKit

abbrev shPlanStepS : Sh := .sl shPlanStep
instance slPlanStepSimpl : SlTy Try.prog 26 117 7 (.agg #[.int .i64 0, .int .i64 0, .int .i64 0, .slice none 0 0, .slice none 0 0, .slice none 0 0, .bool false]) 104 := ⟨by kernel_rfl, by kernel_rfl, by kernel_rfl, by decide, by decide⟩
instance szPlanStepSimpl : SlTy Try.prog 26 117 (Sh.sz shPlanStep) (.agg #[.int .i64 0, .int .i64 0, .int .i64 0, .slice none 0 0, .slice none 0 0, .slice none 0 0, .bool false]) 104 := slPlanStepSimpl
instance elPlanStepSimpl : ElTy Try.prog 117 shPlanStep := ⟨by kernel_rfl, by kernel_rfl⟩

set_option maxRecDepth 100000 in
set_option maxHeartbeats 1000000 in
theorem eqPlanStepS_ok : EqOk 73 shPlanStepS := by
  intro cs cs' l w hu hv hn
  obtain ⟨p, c, css, rfl, h2, h3, h4, h5, h6, h7⟩ := rep_sl hu
  obtain ⟨q, d, css', rfl, g2, g3, g4, g5, g6, g7⟩ := rep_sl hv
  have hle := Nat.le_trans (tot_len l) hn
  generalize hL : l.length = n at *
  have HL := hid hL
  clear hL
  simp only [ofCs, Sh.agg, List.headD_cons, Bool.false_eq_true, if_false]
  go_enter Try.func73, Try.ntmps73
  go_wp2
  go_loopw [5] (fun iv wr => ∃ i : Nat, i ≤ n ∧ iv = .int .i64 i ∧ Ext w wr) (fun iv _ => n - (intOf iv).toNat)
  case atStart => exact ⟨0, by omega, rfl, Ext.refl w⟩
  case round =>
    obtain ⟨i, hi, rfl, he⟩ := hrel
    by_cases hlt : i < n
    · have hp' := (h2.ext he).ext (Ext.drew wr)
      have hq' := (g2.ext he).ext (Ext.drew wr)
      have hil : i < l.length := by rw [HL.out]; exact hlt
      obtain ⟨ci, hci, ri⟩ := h5.get i l[i] (by simp)
      obtain ⟨di, hdi, si⟩ := g5.get i l[i] (by simp)
      have hs1 := h2.some_of h6 (by decide) (show 0 < css.length by omega)
      have hs2 := g2.some_of g6 (by decide) (show 0 < css'.length by omega)
      have hb := Nat.le_trans (Nat.le_trans (Nat.le_add_right _ _) (tot_get l i hil)) hn
      go_wp2_with fail
      refine wp_region_xall (F := fun _ _ u => u = .bool true) (by kernel_rfl) (by kernel_rfl) (by kernel_rfl) ?_
      intro wf hwf
      refine x_mv rfl rfl rfl ?_
      simp only [Act.put, ev_tmp, List.setIfInBounds_toArray, List.set_cons_succ, List.set_cons_zero, List.getD_cons_succ, List.getD_cons_zero]
      refine x_mv rfl rfl rfl ?_
      simp only [Act.put, ev_tmp, List.setIfInBounds_toArray, List.set_cons_succ, List.set_cons_zero, List.getD_cons_succ, List.getD_cons_zero]
      refine x_idxloadE (s := shPlanStep) (j := i) rfl rfl (fun _ => rfl) rfl (fun _ => rfl) rfl rfl rfl hp' h6 h7 hlt hs1 hci ?_
      simp only [Act.put, ev_tmp, List.setIfInBounds_toArray, List.set_cons_succ, List.set_cons_zero, List.getD_cons_succ, List.getD_cons_zero]
      refine x_mv rfl rfl rfl ?_
      simp only [Act.put, ev_tmp, List.setIfInBounds_toArray, List.set_cons_succ, List.set_cons_zero, List.getD_cons_succ, List.getD_cons_zero]
      refine x_mv rfl rfl rfl ?_
      simp only [Act.put, ev_tmp, List.setIfInBounds_toArray, List.set_cons_succ, List.set_cons_zero, List.getD_cons_succ, List.getD_cons_zero]
      refine x_idxloadE (s := shPlanStep) (j := i) rfl rfl (fun _ => rfl) rfl (fun _ => rfl) rfl rfl rfl hq' g6 g7 hlt hs2 hdi ?_
      simp only [Act.put, ev_tmp, List.setIfInBounds_toArray, List.set_cons_succ, List.set_cons_zero, List.getD_cons_succ, List.getD_cons_zero]
      refine x_callf (f := 132) (args := #[ofCs shPlanStep ci, ofCs shPlanStep di]) rfl rfl Try.func132 rfl (by kernel_rfl) (by simp [Act.eval]) (fun w1 hw1 => (eqPlanStep_ok ci di l[i] w1 (((ri.ext he).ext (Ext.drew wr)).ext hw1) (((si.ext he).ext (Ext.drew wr)).ext hw1) hb).mono fun e w3 h => ⟨_, h.1, h.2, rfl⟩) ?_
      rintro u w3 _ _ rfl
      simp only [Act.put, ev_tmp, List.setIfInBounds_toArray, List.set_cons_succ, List.set_cons_zero, List.getD_cons_succ, List.getD_cons_zero]
      refine x_run rfl fun K hK w1 _ => ?_
      go_simp
      refine hK _ ?_
      clear hK K
      refine x_nil ?_
      have he' := (he.trans (Ext.drew wr)).trans hwf
      clear hwf hp' hq' he
      go_wp2
      go_roundw
      case rel => exact ⟨i + 1, by omega, by go_num, he'⟩
      case measure => simp [intOf]; omega
    · obtain rfl : i = n := by omega
      go_wp2
      go_ret
      exact ⟨rfl, he⟩



set_option maxRecDepth 100000 in
set_option maxHeartbeats 1000000 in
theorem markPlanStepS_ok : MarkOk 76 shPlanStepS := by
  intro cs l bs k w hu hnd hk0 hk
  obtain ⟨p, c, css0, bss, rfl, h2, h3, h4, h5, rfl⟩ := own_sl.1 hu
  have hle := Nat.le_trans h3 h4
  have hk' : k + 64 * (tot (.sl shPlanStep) l : Int) ≤ 68719476736 := hk
  have h6 := h5.all
  have h7 := h5.1
  obtain ⟨nd1, nd2, nd3, nd4⟩ := nodup_split hnd
  generalize hL : l.length = n at *
  have HL := hid hL
  clear hL hu
  unfold maxLen at hle
  simp only [ofCs, Sh.agg, List.headD_cons, Bool.false_eq_true, if_false]
  go_enter Try.func76, Try.ntmps76
  go_wp2
  go_loopw [1, 5] (fun kv iv wr => ∃ (i : Nat) (css : List (List Value)), i ≤ n ∧ iv = .int .i64 i ∧ kv = .int .i64 (mkK shPlanStep l k i) ∧ OwnRow wr p n c css.flatten ∧ Hid (OwnEs wr shPlanStep css bss (mkTo shPlanStep l k i)) ∧ Chg (fun b => b ∈ blocksOf p ++ bss.flatten) w wr) (fun _ iv _ => n - (intOf iv).toNat)
  case atStart => exact ⟨0, css0, by omega, rfl, by rw [mkK_zero], h2, by rw [mkTo_zero]; exact h5, Chg.refl _ _⟩
  case round =>
    clear h2 h5 h6 h7
    obtain ⟨i, css, hi, rfl, rfl, own0, H5, hch⟩ := hrel
    have h6 := H5.out.all
    have h7 : css.length = n := by have := H5.out.1; rw [length_mkTo, HL.out] at this; exact this
    by_cases hlt : i < n
    · have hil : i < l.length := by rw [HL.out]; exact hlt
      obtain ⟨b1, b2⟩ := mkK_bd shPlanStep (by decide) l k i hil
      obtain ⟨k1, k2⟩ := mk_succ shPlanStep l k i hil
      have hbl : bss.length = n := by have := H5.out.2.1; rw [length_mkTo, HL.out] at this; exact this
      have hci : css[i]? = some css[i] := by simp
      have hbi : bss[i]? = some bss[i] := by simp
      have ow := H5.out.2.2 i css[i] bss[i] l[i] hci hbi (mkTo_get _ _ _ _ hil)
      have hs1 := own0.cs.some_of h6 (by decide) (show 0 < css.length by omega)
      have ndi := flat_nodup nd2 hbi
      have hin : ∀ b ∈ bss[i], b ∈ bss.flatten := fun b hb => List.mem_flatten.2 ⟨_, List.getElem_mem _, hb⟩
      have hap : ∀ j bj, j ≠ i → bss[j]? = some bj → ∀ b ∈ bj, b ∉ bss[i] := fun j bj hj hbj => flat_apart nd2 hbi hbj hj
      have K1 := hid k1
      have K2 := hid k2
      clear k1 k2
      generalize css[i] = ci at *
      generalize bss[i] = bi at *
      generalize l[i] = d at *
      generalize mkK shPlanStep l k i = ki at *
      obtain ⟨a1, a2, a3, a4, a5, a6, a7, au⟩ := d
      obtain ⟨_, _, _, _, rfl, ⟨rfl, rfl⟩, ⟨_, _, _, _, rfl, ⟨rfl, rfl⟩, ⟨_, _, _, _, rfl, ⟨rfl, rfl⟩, ⟨_, _, ba4, _, rfl, owa4, ⟨_, _, ba5, _, rfl, owa5, ⟨_, _, ba6, _, rfl, owa6, ⟨_, _, _, _, rfl, ⟨rfl, rfl⟩, ⟨rfl, rfl⟩, rfl⟩, rfl⟩, rfl⟩, rfl⟩, rfl⟩, rfl⟩, rfl⟩ := ow
      obtain ⟨pa4, ca4, rfl, hla4⟩ := rep_val owa4.rep
      obtain ⟨pa5, ca5, rfl, hla5⟩ := rep_val owa5.rep
      obtain ⟨pa6, ca6, rfl, hla6⟩ := rep_val owa6.rep
      simp only [List.cons_append, List.nil_append, List.append_nil] at hci hbi ndi hin hap
      obtain ⟨nd_1, ndi1, ap1, aq1⟩ := nodup_split ndi
      obtain ⟨nd_2, ndi2, ap2, aq2⟩ := nodup_split ndi1
      have nd_3 := ndi2
      have in_1 : ∀ b ∈ ba4, b ∈ bss.flatten := fun b hb => hin b (by simp [hb])
      have in_2 : ∀ b ∈ ba5, b ∈ bss.flatten := fun b hb => hin b (by simp [hb])
      have in_3 : ∀ b ∈ ba6, b ∈ bss.flatten := fun b hb => hin b (by simp [hb])
      have B1 := fun kk => mkV_bd (.sl .flt) (by decide) a4 kk
      have B2 := fun kk => mkV_bd (.sl .flt) (by decide) a5 kk
      have B3 := fun kk => mkV_bd (.sl .flt) (by decide) a6 kk
      have htot : tot shPlanStep (a1, a2, a3, a4, a5, a6, a7, au) = tot (.sl .flt) a4 + tot (.sl .flt) a5 + tot (.sl .flt) a6 := by simp only [tot]; omega
      rw [htot] at b2
      clear htot
      have hset : css.set i [.int .i64 a1, .int .i64 a2, .int .i64 a3, .slice pa4 (List.length a4) ca4, .slice pa5 (List.length a5) ca5, .slice pa6 (List.length a6) ca6, .bool a7] = css := by
        obtain ⟨hi9, he9⟩ := List.getElem?_eq_some_iff.1 hci
        rw [← he9]; exact List.set_getElem_self _
      have own_0 : OwnRow wr p n c (css.set i [.int .i64 a1, .int .i64 a2, .int .i64 a3, .slice pa4 (List.length a4) ca4, .slice pa5 (List.length a5) ca5, .slice pa6 (List.length a6) ca6, .bool a7]).flatten := by rw [hset]; exact own0
      have owa4_0 := owa4
      have owa5_0 := owa5
      have owa6_0 := owa6
      have hall_0 : ∀ x ∈ css.set i [.int .i64 a1, .int .i64 a2, .int .i64 a3, .slice pa4 (List.length a4) ca4, .slice pa5 (List.length a5) ca5, .slice pa6 (List.length a6) ca6, .bool a7], x.length = Sh.sz shPlanStep := all_set h6 rfl
      have hlen_0 : (css.set i [.int .i64 a1, .int .i64 a2, .int .i64 a3, .slice pa4 (List.length a4) ca4, .slice pa5 (List.length a5) ca5, .slice pa6 (List.length a6) ca6, .bool a7]).length = n := (by rw [List.length_set]; exact h7)
      have hget_0 : (css.set i [.int .i64 a1, .int .i64 a2, .int .i64 a3, .slice pa4 (List.length a4) ca4, .slice pa5 (List.length a5) ca5, .slice pa6 (List.length a6) ca6, .bool a7])[i]? = some [.int .i64 a1, .int .i64 a2, .int .i64 a3, .slice pa4 (List.length a4) ca4, .slice pa5 (List.length a5) ca5, .slice pa6 (List.length a6) ca6, .bool a7] := List.getElem?_set_self (by omega)
      go_wp2_with (first
        | ((with_reducible (show wpList _ _ _ (Oper.mk _ (Op.indexAddr _ _ _) _ _ _ _ :: Oper.mk _ (Op.fieldAddr _ _ _) _ _ _ _ :: _) _ _)); refine wl_stField (f := 0) (off := 0) (j := i) (u := .int .i64 (ki)) rfl rfl rfl rfl rfl rfl (fun _ => rfl) (fun _ _ => rfl) fo_implPlanStep_0 rfl rfl rfl (fun _ _ => rfl) rfl own_0 hall_0 hlen_0 hlt (by decide) hget_0 ?_; intro w1 own_1' ch1; have own_1 : OwnRow w1 p n c (css.set i [.int .i64 (ki), .int .i64 a2, .int .i64 a3, .slice pa4 (List.length a4) ca4, .slice pa5 (List.length a5) ca5, .slice pa6 (List.length a6) ca6, .bool a7]).flatten := (by first | exact own_1' | (rw [List.set_set] at own_1'; exact own_1')); have owa4_1 := owa4_0.chg ch1 (fun b hb h => nd4 b (in_1 b hb) h); have owa5_1 := owa5_0.chg ch1 (fun b hb h => nd4 b (in_2 b hb) h); have owa6_1 := owa6_0.chg ch1 (fun b hb h => nd4 b (in_3 b hb) h); have hall_1 : ∀ x ∈ css.set i [.int .i64 (ki), .int .i64 a2, .int .i64 a3, .slice pa4 (List.length a4) ca4, .slice pa5 (List.length a5) ca5, .slice pa6 (List.length a6) ca6, .bool a7], x.length = Sh.sz shPlanStep := all_set h6 rfl; have hlen_1 : (css.set i [.int .i64 (ki), .int .i64 a2, .int .i64 a3, .slice pa4 (List.length a4) ca4, .slice pa5 (List.length a5) ca5, .slice pa6 (List.length a6) ca6, .bool a7]).length = n := (by rw [List.length_set]; exact h7); have hget_1 : (css.set i [.int .i64 (ki), .int .i64 a2, .int .i64 a3, .slice pa4 (List.length a4) ca4, .slice pa5 (List.length a5) ca5, .slice pa6 (List.length a6) ca6, .bool a7])[i]? = some [.int .i64 (ki), .int .i64 a2, .int .i64 a3, .slice pa4 (List.length a4) ca4, .slice pa5 (List.length a5) ca5, .slice pa6 (List.length a6) ca6, .bool a7] := List.getElem?_set_self (by omega))
        | ((with_reducible (show wpList _ _ _ (Oper.mk _ (Op.indexAddr _ _ _) _ _ _ _ :: Oper.mk _ (Op.fieldAddr _ _ _) _ _ _ _ :: _) _ _)); refine wl_stField (f := 1) (off := 1) (j := i) (u := .int .i64 (ki + 1)) rfl rfl rfl rfl rfl rfl (fun _ => rfl) (fun _ _ => rfl) fo_implPlanStep_1 rfl rfl rfl (fun _ _ => rfl) rfl own_1 hall_1 hlen_1 hlt (by decide) hget_1 ?_; intro w2 own_2' ch2; have own_2 : OwnRow w2 p n c (css.set i [.int .i64 (ki), .int .i64 (ki + 1), .int .i64 a3, .slice pa4 (List.length a4) ca4, .slice pa5 (List.length a5) ca5, .slice pa6 (List.length a6) ca6, .bool a7]).flatten := (by first | exact own_2' | (rw [List.set_set] at own_2'; exact own_2')); have owa4_2 := owa4_1.chg ch2 (fun b hb h => nd4 b (in_1 b hb) h); have owa5_2 := owa5_1.chg ch2 (fun b hb h => nd4 b (in_2 b hb) h); have owa6_2 := owa6_1.chg ch2 (fun b hb h => nd4 b (in_3 b hb) h); have hall_2 : ∀ x ∈ css.set i [.int .i64 (ki), .int .i64 (ki + 1), .int .i64 a3, .slice pa4 (List.length a4) ca4, .slice pa5 (List.length a5) ca5, .slice pa6 (List.length a6) ca6, .bool a7], x.length = Sh.sz shPlanStep := all_set h6 rfl; have hlen_2 : (css.set i [.int .i64 (ki), .int .i64 (ki + 1), .int .i64 a3, .slice pa4 (List.length a4) ca4, .slice pa5 (List.length a5) ca5, .slice pa6 (List.length a6) ca6, .bool a7]).length = n := (by rw [List.length_set]; exact h7); have hget_2 : (css.set i [.int .i64 (ki), .int .i64 (ki + 1), .int .i64 a3, .slice pa4 (List.length a4) ca4, .slice pa5 (List.length a5) ca5, .slice pa6 (List.length a6) ca6, .bool a7])[i]? = some [.int .i64 (ki), .int .i64 (ki + 1), .int .i64 a3, .slice pa4 (List.length a4) ca4, .slice pa5 (List.length a5) ca5, .slice pa6 (List.length a6) ca6, .bool a7] := List.getElem?_set_self (by omega))
        | ((with_reducible (show wpList _ _ _ (Oper.mk _ (Op.indexAddr _ _ _) _ _ _ _ :: Oper.mk _ (Op.fieldAddr _ _ _) _ _ _ _ :: _) _ _)); refine wl_stField (f := 2) (off := 2) (j := i) (u := .int .i64 (ki + 1 + 1)) rfl rfl rfl rfl rfl rfl (fun _ => rfl) (fun _ _ => rfl) fo_implPlanStep_2 rfl rfl rfl (fun _ _ => rfl) rfl own_2 hall_2 hlen_2 hlt (by decide) hget_2 ?_; intro w3 own_3' ch3; have own_3 : OwnRow w3 p n c (css.set i [.int .i64 (ki), .int .i64 (ki + 1), .int .i64 (ki + 1 + 1), .slice pa4 (List.length a4) ca4, .slice pa5 (List.length a5) ca5, .slice pa6 (List.length a6) ca6, .bool a7]).flatten := (by first | exact own_3' | (rw [List.set_set] at own_3'; exact own_3')); have owa4_3 := owa4_2.chg ch3 (fun b hb h => nd4 b (in_1 b hb) h); have owa5_3 := owa5_2.chg ch3 (fun b hb h => nd4 b (in_2 b hb) h); have owa6_3 := owa6_2.chg ch3 (fun b hb h => nd4 b (in_3 b hb) h); have hall_3 : ∀ x ∈ css.set i [.int .i64 (ki), .int .i64 (ki + 1), .int .i64 (ki + 1 + 1), .slice pa4 (List.length a4) ca4, .slice pa5 (List.length a5) ca5, .slice pa6 (List.length a6) ca6, .bool a7], x.length = Sh.sz shPlanStep := all_set h6 rfl; have hlen_3 : (css.set i [.int .i64 (ki), .int .i64 (ki + 1), .int .i64 (ki + 1 + 1), .slice pa4 (List.length a4) ca4, .slice pa5 (List.length a5) ca5, .slice pa6 (List.length a6) ca6, .bool a7]).length = n := (by rw [List.length_set]; exact h7); have hget_3 : (css.set i [.int .i64 (ki), .int .i64 (ki + 1), .int .i64 (ki + 1 + 1), .slice pa4 (List.length a4) ca4, .slice pa5 (List.length a5) ca5, .slice pa6 (List.length a6) ca6, .bool a7])[i]? = some [.int .i64 (ki), .int .i64 (ki + 1), .int .i64 (ki + 1 + 1), .slice pa4 (List.length a4) ca4, .slice pa5 (List.length a5) ca5, .slice pa6 (List.length a6) ca6, .bool a7] := List.getElem?_set_self (by omega))
        | ((with_reducible (show wpList _ _ _ (Oper.mk _ (Op.indexAddr _ _ _) _ _ _ _ :: Oper.mk _ (Op.fieldAddr _ _ _) _ _ _ _ :: _) _ _)); refine wl_ldField (f := 3) (off := 3) (j := i) rfl rfl rfl rfl rfl rfl (fun _ => rfl) (fun _ _ => rfl) fo_implPlanStep_3 rfl rfl rfl own_3.cs hall_3 hlen_3 hlt hs1 hget_3 rfl ?_)
        )
      have Bq1 := B1 (ki + 1 + 1 + 1)
      obtain ⟨kz1, hkz1⟩ : ∃ z, z = (mkV (.sl .flt) a4 (ki + 1 + 1 + 1)).2 := ⟨_, rfl⟩
      rw [← hkz1] at Bq1
      have HZ1 := hid hkz1
      clear hkz1
      refine (markFloat32S_ok [.slice pa4 (List.length a4) ca4] a4 ba4 (ki + 1 + 1 + 1) _ owa4_3 nd_1 (by omega) (by omega)).mono ?_
      rintro e w4 ⟨rfl, owa4_4, ch4⟩
      rw [← HZ1.out]
      have own_4 := own_3.chg ch4 (fun b hb h => nd3 b hb (in_1 b h))
      have owa5_4 := owa5_3.chg ch4 (fun b hb h => aq1 b (by simp [hb]) h)
      have owa6_4 := owa6_3.chg ch4 (fun b hb h => aq1 b (by simp [hb]) h)
      have hz1 : 0 ≤ kz1 := by omega
      have hall_4 : ∀ x ∈ css.set i [.int .i64 (ki), .int .i64 (ki + 1), .int .i64 (ki + 1 + 1), .slice pa4 (List.length a4) ca4, .slice pa5 (List.length a5) ca5, .slice pa6 (List.length a6) ca6, .bool a7], x.length = Sh.sz shPlanStep := all_set h6 rfl
      have hlen_4 : (css.set i [.int .i64 (ki), .int .i64 (ki + 1), .int .i64 (ki + 1 + 1), .slice pa4 (List.length a4) ca4, .slice pa5 (List.length a5) ca5, .slice pa6 (List.length a6) ca6, .bool a7]).length = n := (by rw [List.length_set]; exact h7)
      have hget_4 : (css.set i [.int .i64 (ki), .int .i64 (ki + 1), .int .i64 (ki + 1 + 1), .slice pa4 (List.length a4) ca4, .slice pa5 (List.length a5) ca5, .slice pa6 (List.length a6) ca6, .bool a7])[i]? = some [.int .i64 (ki), .int .i64 (ki + 1), .int .i64 (ki + 1 + 1), .slice pa4 (List.length a4) ca4, .slice pa5 (List.length a5) ca5, .slice pa6 (List.length a6) ca6, .bool a7] := List.getElem?_set_self (by omega)
      go_wp2_with (first
        | ((with_reducible (show wpList _ _ _ (Oper.mk _ (Op.indexAddr _ _ _) _ _ _ _ :: Oper.mk _ (Op.fieldAddr _ _ _) _ _ _ _ :: _) _ _)); refine wl_ldField (f := 4) (off := 4) (j := i) rfl rfl rfl rfl rfl rfl (fun _ => rfl) (fun _ _ => rfl) fo_implPlanStep_4 rfl rfl rfl own_4.cs hall_4 hlen_4 hlt hs1 hget_4 rfl ?_)
        )
      have Bq2 := B2 (kz1)
      obtain ⟨kz2, hkz2⟩ : ∃ z, z = (mkV (.sl .flt) a5 (kz1)).2 := ⟨_, rfl⟩
      rw [← hkz2] at Bq2
      have HZ2 := hid hkz2
      clear hkz2
      refine (markFloat32S_ok [.slice pa5 (List.length a5) ca5] a5 ba5 (kz1) _ owa5_4 nd_2 (by omega) (by omega)).mono ?_
      rintro e w5 ⟨rfl, owa5_5, ch5⟩
      rw [← HZ2.out]
      have own_5 := own_4.chg ch5 (fun b hb h => nd3 b hb (in_2 b h))
      have owa4_5 := owa4_4.chg ch5 (fun b hb h => ap1 b hb (by simp [h]))
      have owa6_5 := owa6_4.chg ch5 (fun b hb h => aq2 b (by simp [hb]) h)
      have hz2 : 0 ≤ kz2 := by omega
      have hall_5 : ∀ x ∈ css.set i [.int .i64 (ki), .int .i64 (ki + 1), .int .i64 (ki + 1 + 1), .slice pa4 (List.length a4) ca4, .slice pa5 (List.length a5) ca5, .slice pa6 (List.length a6) ca6, .bool a7], x.length = Sh.sz shPlanStep := all_set h6 rfl
      have hlen_5 : (css.set i [.int .i64 (ki), .int .i64 (ki + 1), .int .i64 (ki + 1 + 1), .slice pa4 (List.length a4) ca4, .slice pa5 (List.length a5) ca5, .slice pa6 (List.length a6) ca6, .bool a7]).length = n := (by rw [List.length_set]; exact h7)
      have hget_5 : (css.set i [.int .i64 (ki), .int .i64 (ki + 1), .int .i64 (ki + 1 + 1), .slice pa4 (List.length a4) ca4, .slice pa5 (List.length a5) ca5, .slice pa6 (List.length a6) ca6, .bool a7])[i]? = some [.int .i64 (ki), .int .i64 (ki + 1), .int .i64 (ki + 1 + 1), .slice pa4 (List.length a4) ca4, .slice pa5 (List.length a5) ca5, .slice pa6 (List.length a6) ca6, .bool a7] := List.getElem?_set_self (by omega)
      go_wp2_with (first
        | ((with_reducible (show wpList _ _ _ (Oper.mk _ (Op.indexAddr _ _ _) _ _ _ _ :: Oper.mk _ (Op.fieldAddr _ _ _) _ _ _ _ :: _) _ _)); refine wl_ldField (f := 5) (off := 5) (j := i) rfl rfl rfl rfl rfl rfl (fun _ => rfl) (fun _ _ => rfl) fo_implPlanStep_5 rfl rfl rfl own_5.cs hall_5 hlen_5 hlt hs1 hget_5 rfl ?_)
        )
      have Bq3 := B3 (kz2)
      obtain ⟨kz3, hkz3⟩ : ∃ z, z = (mkV (.sl .flt) a6 (kz2)).2 := ⟨_, rfl⟩
      rw [← hkz3] at Bq3
      have HZ3 := hid hkz3
      clear hkz3
      refine (markFloat32S_ok [.slice pa6 (List.length a6) ca6] a6 ba6 (kz2) _ owa6_5 nd_3 (by omega) (by omega)).mono ?_
      rintro e w6 ⟨rfl, owa6_6, ch6⟩
      rw [← HZ3.out]
      have own_6 := own_5.chg ch6 (fun b hb h => nd3 b hb (in_3 b h))
      have owa4_6 := owa4_5.chg ch6 (fun b hb h => ap1 b hb (by simp [h]))
      have owa5_6 := owa5_5.chg ch6 (fun b hb h => ap2 b hb (by simp [h]))
      have hz3 : 0 ≤ kz3 := by omega
      have hall_6 : ∀ x ∈ css.set i [.int .i64 (ki), .int .i64 (ki + 1), .int .i64 (ki + 1 + 1), .slice pa4 (List.length a4) ca4, .slice pa5 (List.length a5) ca5, .slice pa6 (List.length a6) ca6, .bool a7], x.length = Sh.sz shPlanStep := all_set h6 rfl
      have hlen_6 : (css.set i [.int .i64 (ki), .int .i64 (ki + 1), .int .i64 (ki + 1 + 1), .slice pa4 (List.length a4) ca4, .slice pa5 (List.length a5) ca5, .slice pa6 (List.length a6) ca6, .bool a7]).length = n := (by rw [List.length_set]; exact h7)
      have hget_6 : (css.set i [.int .i64 (ki), .int .i64 (ki + 1), .int .i64 (ki + 1 + 1), .slice pa4 (List.length a4) ca4, .slice pa5 (List.length a5) ca5, .slice pa6 (List.length a6) ca6, .bool a7])[i]? = some [.int .i64 (ki), .int .i64 (ki + 1), .int .i64 (ki + 1 + 1), .slice pa4 (List.length a4) ca4, .slice pa5 (List.length a5) ca5, .slice pa6 (List.length a6) ca6, .bool a7] := List.getElem?_set_self (by omega)
      go_wp2_with (first
        | ((with_reducible (show wpList _ _ _ (Oper.mk _ (Op.indexAddr _ _ _) _ _ _ _ :: Oper.mk _ (Op.fieldAddr _ _ _) _ _ _ _ :: _) _ _)); refine wl_stField (f := 6) (off := 6) (j := i) (u := .bool (decide (kz3 % 3 = 0))) rfl rfl rfl rfl rfl rfl (fun _ => rfl) (fun _ _ => rfl) fo_implPlanStep_6 rfl rfl rfl (fun _ _ => rfl) rfl own_6 hall_6 hlen_6 hlt (by decide) hget_6 ?_; intro w7 own_7' ch7; have own_7 : OwnRow w7 p n c (css.set i [.int .i64 (ki), .int .i64 (ki + 1), .int .i64 (ki + 1 + 1), .slice pa4 (List.length a4) ca4, .slice pa5 (List.length a5) ca5, .slice pa6 (List.length a6) ca6, .bool (decide (kz3 % 3 = 0))]).flatten := (by first | exact own_7' | (rw [List.set_set] at own_7'; exact own_7')); have owa4_7 := owa4_6.chg ch7 (fun b hb h => nd4 b (in_1 b hb) h); have owa5_7 := owa5_6.chg ch7 (fun b hb h => nd4 b (in_2 b hb) h); have owa6_7 := owa6_6.chg ch7 (fun b hb h => nd4 b (in_3 b hb) h); have hall_7 : ∀ x ∈ css.set i [.int .i64 (ki), .int .i64 (ki + 1), .int .i64 (ki + 1 + 1), .slice pa4 (List.length a4) ca4, .slice pa5 (List.length a5) ca5, .slice pa6 (List.length a6) ca6, .bool (decide (kz3 % 3 = 0))], x.length = Sh.sz shPlanStep := all_set h6 rfl; have hlen_7 : (css.set i [.int .i64 (ki), .int .i64 (ki + 1), .int .i64 (ki + 1 + 1), .slice pa4 (List.length a4) ca4, .slice pa5 (List.length a5) ca5, .slice pa6 (List.length a6) ca6, .bool (decide (kz3 % 3 = 0))]).length = n := (by rw [List.length_set]; exact h7); have hget_7 : (css.set i [.int .i64 (ki), .int .i64 (ki + 1), .int .i64 (ki + 1 + 1), .slice pa4 (List.length a4) ca4, .slice pa5 (List.length a5) ca5, .slice pa6 (List.length a6) ca6, .bool (decide (kz3 % 3 = 0))])[i]? = some [.int .i64 (ki), .int .i64 (ki + 1), .int .i64 (ki + 1 + 1), .slice pa4 (List.length a4) ca4, .slice pa5 (List.length a5) ca5, .slice pa6 (List.length a6) ca6, .bool (decide (kz3 % 3 = 0))] := List.getElem?_set_self (by omega))
        )
      have ow9 : Own w7 shPlanStep [.int .i64 (ki), .int .i64 (ki + 1), .int .i64 (ki + 1 + 1), .slice pa4 (List.length a4) ca4, .slice pa5 (List.length a5) ca5, .slice pa6 (List.length a6) ca6, .bool (decide (kz3 % 3 = 0))] (mkE shPlanStep (a1, a2, a3, a4, a5, a6, a7, au) ki).1 ([] ++ ([] ++ ([] ++ (ba4 ++ (ba5 ++ (ba6 ++ ([] ++ ([])))))))) := by
        have g3 := HZ3.out; subst g3; have g2 := HZ2.out; subst g2; have g1 := HZ1.out; subst g1
        exact ⟨[.int .i64 (ki)], [.int .i64 (ki + 1), .int .i64 (ki + 1 + 1), .slice pa4 (List.length a4) ca4, .slice pa5 (List.length a5) ca5, .slice pa6 (List.length a6) ca6, .bool (decide ((mkV (.sl .flt) a6 ((mkV (.sl .flt) a5 ((mkV (.sl .flt) a4 (ki + 1 + 1 + 1)).2)).2)).2 % 3 = 0))], [], ([] ++ ([] ++ (ba4 ++ (ba5 ++ (ba6 ++ ([] ++ ([]))))))), rfl, ⟨rfl, rfl⟩, ⟨[.int .i64 (ki + 1)], [.int .i64 (ki + 1 + 1), .slice pa4 (List.length a4) ca4, .slice pa5 (List.length a5) ca5, .slice pa6 (List.length a6) ca6, .bool (decide ((mkV (.sl .flt) a6 ((mkV (.sl .flt) a5 ((mkV (.sl .flt) a4 (ki + 1 + 1 + 1)).2)).2)).2 % 3 = 0))], [], ([] ++ (ba4 ++ (ba5 ++ (ba6 ++ ([] ++ ([])))))), rfl, ⟨rfl, rfl⟩, ⟨[.int .i64 (ki + 1 + 1)], [.slice pa4 (List.length a4) ca4, .slice pa5 (List.length a5) ca5, .slice pa6 (List.length a6) ca6, .bool (decide ((mkV (.sl .flt) a6 ((mkV (.sl .flt) a5 ((mkV (.sl .flt) a4 (ki + 1 + 1 + 1)).2)).2)).2 % 3 = 0))], [], (ba4 ++ (ba5 ++ (ba6 ++ ([] ++ ([]))))), rfl, ⟨rfl, rfl⟩, ⟨[.slice pa4 (List.length a4) ca4], [.slice pa5 (List.length a5) ca5, .slice pa6 (List.length a6) ca6, .bool (decide ((mkV (.sl .flt) a6 ((mkV (.sl .flt) a5 ((mkV (.sl .flt) a4 (ki + 1 + 1 + 1)).2)).2)).2 % 3 = 0))], ba4, (ba5 ++ (ba6 ++ ([] ++ ([])))), rfl, owa4_7, ⟨[.slice pa5 (List.length a5) ca5], [.slice pa6 (List.length a6) ca6, .bool (decide ((mkV (.sl .flt) a6 ((mkV (.sl .flt) a5 ((mkV (.sl .flt) a4 (ki + 1 + 1 + 1)).2)).2)).2 % 3 = 0))], ba5, (ba6 ++ ([] ++ ([]))), rfl, owa5_7, ⟨[.slice pa6 (List.length a6) ca6], [.bool (decide ((mkV (.sl .flt) a6 ((mkV (.sl .flt) a5 ((mkV (.sl .flt) a4 (ki + 1 + 1 + 1)).2)).2)).2 % 3 = 0))], ba6, ([] ++ ([])), rfl, owa6_7, ⟨[.bool (decide ((mkV (.sl .flt) a6 ((mkV (.sl .flt) a5 ((mkV (.sl .flt) a4 (ki + 1 + 1 + 1)).2)).2)).2 % 3 = 0))], [], [], ([]), rfl, ⟨rfl, rfl⟩, ⟨rfl, rfl⟩, rfl⟩, rfl⟩, rfl⟩, rfl⟩, rfl⟩, rfl⟩, rfl⟩
      simp only [List.nil_append, List.append_nil] at ow9
      have chT : Chg (fun b => b ∈ blocksOf p ++ (ba4 ++ (ba5 ++ (ba6)))) wr w7 := Chg.trans (Chg.trans (Chg.trans (Chg.trans (Chg.trans (Chg.trans ((ch1.mono fun b hb => List.mem_append.2 (.inl hb))) (ch2.mono fun b hb => List.mem_append.2 (.inl hb))) (ch3.mono fun b hb => List.mem_append.2 (.inl hb))) (ch4.mono fun b hb => List.mem_append.2 (.inr (by simp [hb])))) (ch5.mono fun b hb => List.mem_append.2 (.inr (by simp [hb])))) (ch6.mono fun b hb => List.mem_append.2 (.inr (by simp [hb])))) (ch7.mono fun b hb => List.mem_append.2 (.inl hb))
      have es2 := H5.out.upd chT hbi (fun j bj hj hbj b hb hx => by
        rcases List.mem_append.1 hx with hx | hx
        · exact nd4 b (List.mem_flatten.2 ⟨bj, List.mem_of_getElem? hbj, hb⟩) hx
        · exact hap j bj hj hbj b hb hx) ow9
      have hc2 := hch.trans (chT.mono fun b hb => by
        rcases List.mem_append.1 hb with hx | hx
        · exact List.mem_append.2 (.inl hx)
        · exact List.mem_append.2 (.inr (hin b hx)))
      go_wp2
      go_roundw
      case rel => exact ⟨i + 1, _, by omega, by go_num, by rw [K1.out, HZ3.out, HZ2.out, HZ1.out]; rfl, own_7, by rw [K2.out]; exact es2, hc2⟩
      case measure => simp [intOf]; omega
    · obtain rfl : i = n := by omega
      go_wp2
      go_ret
      have k1 := HL.out
      have k3 : mkTo shPlanStep l k i = (mkV shPlanStepS l k).1 := by rw [← k1]; exact mkTo_all _ l k
      have k4 : mkK shPlanStep l k i = (mkV shPlanStepS l k).2 := by rw [← k1]; exact mkK_all _ l k
      have k5 : (mkV shPlanStepS l k).1.length = i := by rw [← k3, length_mkTo]; exact k1
      refine ⟨by rw [k4]; rfl, own_sl.2 ⟨p, c, css, bss, ?_, by rw [k5]; exact own0, by rw [k5]; exact h3, h4, by rw [← k3]; exact H5.out, rfl⟩, hch⟩
      rw [k5]

set_option maxRecDepth 100000 in
set_option maxHeartbeats 1000000 in
theorem heldPlanStepS_ok : HeldOk 77 shPlanStepS := by
  intro cs l k w hu hk0 hk
  have hm : (mkV shPlanStepS l k).1.length = l.length := length_carry _ l k
  obtain ⟨p, c, css, rfl, h2, h3, h4, h5, h6, h7⟩ := rep_sl hu
  have hle := Nat.le_trans h3 h4
  have hk' : k + 64 * (tot (.sl shPlanStep) l : Int) ≤ 68719476736 := hk
  rw [hm] at h3 hle h7 ⊢
  generalize hL : l.length = n at *
  have HL := hid hL
  clear hL hu
  unfold maxLen at hle
  simp only [ofCs, Sh.agg, List.headD_cons, Bool.false_eq_true, if_false]
  go_enter Try.func77, Try.ntmps77
  go_wp2
  go_loopw [1, 5] (fun kv iv wr => ∃ i : Nat, i ≤ n ∧ iv = .int .i64 i ∧ kv = .int .i64 (mkK shPlanStep l k i) ∧ Ext w wr) (fun _ iv _ => n - (intOf iv).toNat)
  case atStart => exact ⟨0, by omega, rfl, by rw [mkK_zero], Ext.refl _⟩
  case round =>
    obtain ⟨i, hi, rfl, rfl, he⟩ := hrel
    by_cases hlt : i < n
    · have hil : i < l.length := by rw [HL.out]; exact hlt
      obtain ⟨b1, b2⟩ := mkK_bd shPlanStep (by decide) l k i hil
      obtain ⟨k1, _⟩ := mk_succ shPlanStep l k i hil
      obtain ⟨ci, hci, ri⟩ := h5.get i _ (mkV_get shPlanStep l k i hil)
      have hs1 := h2.some_of h6 (by decide) (show 0 < css.length by omega)
      have hp0 := h2.ext he
      have K1 := hid k1
      clear k1
      generalize l[i] = d at *
      generalize mkK shPlanStep l k i = ki at *
      obtain ⟨a1, a2, a3, a4, a5, a6, a7, au⟩ := d
      obtain ⟨kz1, hkz1⟩ : ∃ z, z = (mkV (.sl .flt) a4 (ki + 1 + 1 + 1)).2 := ⟨_, rfl⟩
      obtain ⟨kz2, hkz2⟩ : ∃ z, z = (mkV (.sl .flt) a5 (kz1)).2 := ⟨_, rfl⟩
      obtain ⟨kz3, hkz3⟩ : ∃ z, z = (mkV (.sl .flt) a6 (kz2)).2 := ⟨_, rfl⟩
      have ri0 : Rep w shPlanStep ci ((ki), (ki + 1), (ki + 1 + 1), (mkV (.sl .flt) a4 (ki + 1 + 1 + 1)).1, (mkV (.sl .flt) a5 (kz1)).1, (mkV (.sl .flt) a6 (kz2)).1, decide ((kz3) % 3 = 0), au) := by (try subst hkz3 hkz2 hkz1); exact ri
      clear ri
      generalize hrb : decide ((kz3) % 3 = 0) = rb at ri0
      have hrb2 : (kz3 % 3 == 0) = rb := by rw [← hrb]; rfl
      obtain ⟨_, _, rfl, rfl, _, _, rfl, rfl, _, _, rfl, rfl, _, _, rfl, ha4, _, _, rfl, ha5, _, _, rfl, ha6, _, _, rfl, rfl, rfl⟩ := ri0
      obtain ⟨pa4, ca4, rfl, hla4⟩ := rep_val ha4
      obtain ⟨pa5, ca5, rfl, hla5⟩ := rep_val ha5
      obtain ⟨pa6, ca6, rfl, hla6⟩ := rep_val ha6
      simp only [List.cons_append, List.nil_append, List.append_nil] at hci
      have htot : tot shPlanStep (a1, a2, a3, a4, a5, a6, a7, au) = tot (.sl .flt) a4 + tot (.sl .flt) a5 + tot (.sl .flt) a6 := by simp only [tot]; omega
      rw [htot] at b2
      clear htot
      have B1 := mkV_bd (.sl .flt) (by decide) a4 (ki + 1 + 1 + 1)
      have B2 := mkV_bd (.sl .flt) (by decide) a5 (kz1)
      have B3 := mkV_bd (.sl .flt) (by decide) a6 (kz2)
      rw [← hkz1] at B1
      have hz1 : 0 ≤ kz1 := by omega
      have HZ1 := hid hkz1
      clear hkz1
      rw [← hkz2] at B2
      have hz2 : 0 ≤ kz2 := by omega
      have HZ2 := hid hkz2
      clear hkz2
      rw [← hkz3] at B3
      have hz3 : 0 ≤ kz3 := by omega
      have HZ3 := hid hkz3
      clear hkz3
      generalize hna4 : List.length (mkV (.sl .flt) a4 (ki + 1 + 1 + 1)).1 = na4 at *
      generalize hna5 : List.length (mkV (.sl .flt) a5 (kz1)).1 = na5 at *
      generalize hna6 : List.length (mkV (.sl .flt) a6 (kz2)).1 = na6 at *
      go_wp2_with (first
        | ((with_reducible (show wpList _ _ _ (Oper.mk _ (Op.indexAddr _ _ _) _ _ _ _ :: Oper.mk _ (Op.fieldAddr _ _ _) _ _ _ _ :: _) _ _)); refine wl_ldField (f := 0) (off := 0) (j := i) rfl rfl rfl rfl rfl rfl (fun _ => rfl) (fun _ _ => rfl) fo_implPlanStep_0 rfl rfl rfl (h2.ext he) h6 h7 hlt hs1 hci rfl ?_)
        | ((with_reducible (show wpList _ _ _ (Oper.mk _ (Op.indexAddr _ _ _) _ _ _ _ :: Oper.mk _ (Op.fieldAddr _ _ _) _ _ _ _ :: _) _ _)); refine wl_ldField (f := 1) (off := 1) (j := i) rfl rfl rfl rfl rfl rfl (fun _ => rfl) (fun _ _ => rfl) fo_implPlanStep_1 rfl rfl rfl (h2.ext he) h6 h7 hlt hs1 hci rfl ?_)
        | ((with_reducible (show wpList _ _ _ (Oper.mk _ (Op.indexAddr _ _ _) _ _ _ _ :: Oper.mk _ (Op.fieldAddr _ _ _) _ _ _ _ :: _) _ _)); refine wl_ldField (f := 2) (off := 2) (j := i) rfl rfl rfl rfl rfl rfl (fun _ => rfl) (fun _ _ => rfl) fo_implPlanStep_2 rfl rfl rfl (h2.ext he) h6 h7 hlt hs1 hci rfl ?_)
        | ((with_reducible (show wpList _ _ _ (Oper.mk _ (Op.indexAddr _ _ _) _ _ _ _ :: Oper.mk _ (Op.fieldAddr _ _ _) _ _ _ _ :: _) _ _)); refine wl_ldField (f := 3) (off := 3) (j := i) rfl rfl rfl rfl rfl rfl (fun _ => rfl) (fun _ _ => rfl) fo_implPlanStep_3 rfl rfl rfl (h2.ext he) h6 h7 hlt hs1 hci rfl ?_)
        )
      refine (heldFloat32S_ok [.slice pa4 na4 ca4] a4 (ki + 1 + 1 + 1) _ (Rep.ext he ha4) (by omega) (by omega)).mono ?_
      rintro e w1 ⟨rfl, e1⟩
      rw [← HZ1.out]
      go_wp2_with (first
        | ((with_reducible (show wpList _ _ _ (Oper.mk _ (Op.indexAddr _ _ _) _ _ _ _ :: Oper.mk _ (Op.fieldAddr _ _ _) _ _ _ _ :: _) _ _)); refine wl_ldField (f := 4) (off := 4) (j := i) rfl rfl rfl rfl rfl rfl (fun _ => rfl) (fun _ _ => rfl) fo_implPlanStep_4 rfl rfl rfl (h2.ext (he.trans e1)) h6 h7 hlt hs1 hci rfl ?_)
        )
      refine (heldFloat32S_ok [.slice pa5 na5 ca5] a5 (kz1) _ (Rep.ext (he.trans e1) ha5) (by omega) (by omega)).mono ?_
      rintro e w2 ⟨rfl, e2⟩
      rw [← HZ2.out]
      go_wp2_with (first
        | ((with_reducible (show wpList _ _ _ (Oper.mk _ (Op.indexAddr _ _ _) _ _ _ _ :: Oper.mk _ (Op.fieldAddr _ _ _) _ _ _ _ :: _) _ _)); refine wl_ldField (f := 5) (off := 5) (j := i) rfl rfl rfl rfl rfl rfl (fun _ => rfl) (fun _ _ => rfl) fo_implPlanStep_5 rfl rfl rfl (h2.ext ((he.trans e1).trans e2)) h6 h7 hlt hs1 hci rfl ?_)
        )
      refine (heldFloat32S_ok [.slice pa6 na6 ca6] a6 (kz2) _ (Rep.ext ((he.trans e1).trans e2) ha6) (by omega) (by omega)).mono ?_
      rintro e w3 ⟨rfl, e3⟩
      rw [← HZ3.out]
      go_wp2_with (first
        | ((with_reducible (show wpList _ _ _ (Oper.mk _ (Op.indexAddr _ _ _) _ _ _ _ :: Oper.mk _ (Op.fieldAddr _ _ _) _ _ _ _ :: _) _ _)); refine wl_ldField (f := 6) (off := 6) (j := i) rfl rfl rfl rfl rfl rfl (fun _ => rfl) (fun _ _ => rfl) fo_implPlanStep_6 rfl rfl rfl (h2.ext (((he.trans e1).trans e2).trans e3)) h6 h7 hlt hs1 hci rfl ?_)
        )
      go_wp2
      go_roundw
      case rel => exact ⟨i + 1, by omega, by go_num, by rw [K1.out, HZ3.out, HZ2.out, HZ1.out]; rfl, (((he.trans e1).trans e2).trans e3)⟩
      case measure => simp [intOf]; omega
    · obtain rfl : i = n := by omega
      go_wp2
      go_ret
      have k1 := HL.out
      have k4 : mkK shPlanStep l k i = (mkV shPlanStepS l k).2 := by rw [← k1]; exact mkK_all _ l k
      exact ⟨by rw [k4]; rfl, he⟩
end Go.Proofs.Ytlimabbeaimdgaa
