/- The harness on lists of texts. -/
import Derived.Test.YtmcafdcabbighaaPlain
namespace Go.Proofs.Ytmcafdcabbighaa
set_option linter.unusedSimpArgs false
set_option linter.unusedVariables false
open Go.RowKit

abbrev shStringS : Sh := .sl .str

set_option maxRecDepth 100000 in
set_option maxHeartbeats 1000000 in
theorem toStringS_any (p : Option Addr) (n c : Nat) (xs : List ByteArray) (w : World) (hx : xs.length = n) (hn : n ≤ 1073741824) (hc : Cs w p (xs.map Value.string)) :
    Calls Try.prog 16 #[.slice p n c] w fun e w' => ∃ g, e = .returned (.slice (some ⟨g, 0, none⟩) n n) ∧ w'.ownsRow w.heap.size 9 1 (.slice (some ⟨g, 0, none⟩) n n) n (xs.map Value.string) ∧ Ext w w' := by
  have Hx := hid hx
  clear hx
  go_enter Try.func16, Try.ntmps16
  go_wp2_with (refine wl_make w.heap.size n rfl rfl rfl rfl (by unfold maxLen; omega) (by omega) (Nat.le_refl _) ?_; intro g w1 own1 e1)
  go_loopw [4] (fun iv wr => ∃ (i : Nat) (us : List Value), i ≤ n ∧ iv = .int .i64 i ∧ wr.ownsRow w.heap.size 9 1 (.slice (some ⟨g, 0, none⟩) n n) n us ∧ Hid (us.length = n) ∧ Hid (∀ j, j < i → us[j]? = (xs.map Value.string)[j]?) ∧ Ext w wr) (fun iv _ => n - (intOf iv).toNat)
  case atStart => exact ⟨0, _, by omega, rfl, own1, own1.1.trans (Nat.mul_one n), fun j hj => by omega, e1⟩
  case round =>
    clear own1 e1
    obtain ⟨i, us, hi, rfl, own1, Hu, Hall, e1⟩ := hrel
    by_cases hlt : i < n
    · have hcw := hc.ext e1
      have hb : (xs.map Value.string)[i]? = some (.string (xs[i]'(by rw [Hx.out]; exact hlt))) := by simp
      have Hb := hid hb
      have Hv := hid (show (xs.map Value.string).length = n by rw [List.length_map]; exact Hx.out)
      clear hb
      generalize xs[i]'(by rw [Hx.out]; exact hlt) = b at *
      go_wp2_with (first | (refine wl_idxload rfl rfl rfl rfl (fun _ => rfl) rfl rfl hcw Hv.out (by omega) (by omega) ?_; intro u hu; rw [Int.toNat_natCast, Hb.out] at hu; cases hu) | (refine wl_idxstore (u := .string b) rfl rfl rfl rfl (fun _ => rfl) rfl rfl (fun _ => rfl) rfl own1 (by omega) (by omega) ?_; intro w2 own2 g2))
      go_roundw
      case rel =>
        refine ⟨i + 1, _, by omega, by go_num, own2, by rw [Hid, List.length_set]; exact Hu.out, fun j hj => ?_, e1.grown g2 (fun k hk => (own_le own1 k hk))⟩
        rw [Int.toNat_natCast, List.getElem?_set]
        by_cases hji : i = j
        · subst hji; rw [if_pos rfl, if_pos (by rw [Hu.out]; exact hlt), Hb.out]
        · rw [if_neg hji]; exact Hall j (by omega)
      case measure => simp [intOf]; omega
    · obtain rfl : i = n := by omega
      go_wp2
      go_ret
      have : us = xs.map Value.string := by
        apply List.ext_getElem?
        intro j
        by_cases hj : j < i
        · exact Hall j hj
        · rw [List.getElem?_eq_none (by rw [Hu.out]; omega), List.getElem?_eq_none (by rw [List.length_map, Hx.out]; omega)]
      subst this
      exact ⟨g, rfl, own1, e1⟩
theorem toStringS_ok : ToOk 16 (.sl .str) := by
  intro cs xs w h hn
  have hl := Nat.le_trans (tot_len xs) hn
  obtain ⟨p, c, rfl, h2, h4, h5⟩ := rep_strs.1 h
  refine (toStringS_any p _ c xs w rfl (by omega) h2).mono ?_
  rintro e w' ⟨g, rfl, own, he⟩
  exact ⟨_, [g], rfl, own_strs.2 ⟨_, _, rfl, ownRow_of own, (own_cap own).1, (own_cap own).2, rfl⟩, by simp, by simpa using own_le own g rfl, he⟩

set_option maxRecDepth 100000 in
set_option maxHeartbeats 1000000 in
theorem eqStringS_ok : EqOk 18 (.sl .str) := by
  intro cs cs' xs w hu hv hn
  have hle := Nat.le_trans (tot_len xs) hn
  obtain ⟨p, c, rfl, h2, h4, h5⟩ := rep_strs.1 hu
  obtain ⟨q, d, rfl, g2, g4, g5⟩ := rep_strs.1 hv
  generalize hL : xs.length = n at *
  have HL := hid hL
  clear hL
  simp only [ofCs, Sh.agg, List.headD_cons, Bool.false_eq_true, if_false]
  go_enter Try.func18, Try.ntmps18
  go_wp2
  go_loopw [5] (fun iv wr => ∃ i : Nat, i ≤ n ∧ iv = .int .i64 i ∧ Ext w wr) (fun iv _ => n - (intOf iv).toNat)
  case atStart => exact ⟨0, by omega, rfl, Ext.refl w⟩
  case round =>
    obtain ⟨i, hi, rfl, he⟩ := hrel
    by_cases hlt : i < n
    · have hp' := (h2.ext he).ext (Ext.drew wr)
      have hq' := (g2.ext he).ext (Ext.drew wr)
      have hb : (xs.map Value.string)[i]? = some (.string (xs[i]'(by rw [HL.out]; exact hlt))) := by simp
      have Hb := hid hb
      have Hv := hid (show (xs.map Value.string).length = n by rw [List.length_map]; exact HL.out)
      clear hb
      generalize xs[i]'(by rw [HL.out]; exact hlt) = b at *
      go_wp2_with fail
      refine wp_region_xall (F := fun _ _ _ => False) (by kernel_rfl) (by kernel_rfl) (by kernel_rfl) ?_
      intro wf hwf
      refine x_mv rfl rfl rfl ?_
      simp only [Act.put, ev_tmp, List.setIfInBounds_toArray, List.set_cons_succ, List.set_cons_zero, List.getD_cons_succ, List.getD_cons_zero]
      refine x_mv rfl rfl rfl ?_
      simp only [Act.put, ev_tmp, List.setIfInBounds_toArray, List.set_cons_succ, List.set_cons_zero, List.getD_cons_succ, List.getD_cons_zero]
      refine x_idxload rfl rfl (fun _ => rfl) rfl (fun _ => rfl) rfl rfl hp' Hv.out (by omega) (by omega) ?_
      intro u hu; rw [Int.toNat_natCast, Hb.out] at hu; cases hu
      simp only [Act.put, ev_tmp, List.setIfInBounds_toArray, List.set_cons_succ, List.set_cons_zero, List.getD_cons_succ, List.getD_cons_zero]
      refine x_mv rfl rfl rfl ?_
      simp only [Act.put, ev_tmp, List.setIfInBounds_toArray, List.set_cons_succ, List.set_cons_zero, List.getD_cons_succ, List.getD_cons_zero]
      refine x_mv rfl rfl rfl ?_
      simp only [Act.put, ev_tmp, List.setIfInBounds_toArray, List.set_cons_succ, List.set_cons_zero, List.getD_cons_succ, List.getD_cons_zero]
      refine x_idxload rfl rfl (fun _ => rfl) rfl (fun _ => rfl) rfl rfl hq' Hv.out (by omega) (by omega) ?_
      intro u hu; rw [Int.toNat_natCast, Hb.out] at hu; cases hu
      simp only [Act.put, ev_tmp, List.setIfInBounds_toArray, List.set_cons_succ, List.set_cons_zero, List.getD_cons_succ, List.getD_cons_zero]
      refine x_run rfl fun K hK w1 _ => ?_
      go_simp
      refine hK _ ?_
      clear hK K
      refine x_nil ?_
      have he' := (he.trans (Ext.drew wr)).trans hwf
      clear hwf hp' hq' he
      go_wp2
      go_roundw
      case rel => exact ⟨i + 1, by omega, by go_num, he'⟩
      case measure => simp [intOf]; omega
    · obtain rfl : i = n := by omega
      go_wp2
      go_ret
      exact ⟨rfl, he⟩

set_option maxRecDepth 100000 in
set_option maxHeartbeats 1000000 in
theorem szStringS_ok (cs : List Value) (xs : List ByteArray) (left : Int) (w : World) (hu : Rep w (.sl .str) cs xs) (hf : ∀ s ∈ xs, s.size ≤ maxLen) (hl0 : 0 ≤ left) (hl1 : left ≤ 1048576) :
    Calls Try.prog 14 #[ofCs (.sl .str) cs, .int .i64 left] w fun e w' => Left left (tot (.sl .str) xs) e ∧ Ext w w' := by
  obtain ⟨p, c, rfl, h2, h4, h5⟩ := rep_strs.1 hu
  have hle := Nat.le_trans h4 h5
  have ht := tot_sl (e := .str) xs
  generalize hL : xs.length = n at *
  have HL := hid hL
  clear hL
  unfold maxLen at hle
  generalize hT : tot (.sl .str) xs = T at *
  have HT := hid hT
  have Ht := hid ht
  clear hT ht
  simp only [ofCs, Sh.agg, List.headD_cons, Bool.false_eq_true, if_false]
  by_cases hneg : left - n < 0
  · go_enter Try.func14, Try.ntmps14
    go_wp2
    go_ret
    exact ⟨⟨-1, rfl, .inl (by omega)⟩, Ext.refl _⟩
  · go_enter Try.func14, Try.ntmps14
    go_wp2
    go_loopw [1, 5] (fun lv iv wr => ∃ (i : Nat) (lf : Int), i ≤ n ∧ iv = .int .i64 i ∧ lv = .int .i64 lf ∧ 0 ≤ lf ∧ lf ≤ 1048576 ∧ Hid (lf = left - n - (((xs.map (tot .str)).take i).sum : Nat)) ∧ Ext w wr) (fun _ iv _ => n - (intOf iv).toNat)
    case atStart => exact ⟨0, left - n, by omega, rfl, rfl, by omega, by omega, by unfold Hid; simp, Ext.refl _⟩
    case round =>
      obtain ⟨i, lf, hi, rfl, rfl, hf0, hf1, Hlf, he⟩ := hrel
      by_cases hlt : i < n
      · have hil : i < xs.length := by rw [HL.out]; exact hlt
        have hb : (xs.map Value.string)[i]? = some (.string xs[i]) := by simp
        have Hb := hid hb
        have Hv := hid (show (xs.map Value.string).length = n by rw [List.length_map]; exact HL.out)
        have h9 : ((xs.map (tot .str)).take (i + 1)).sum = ((xs.map (tot .str)).take i).sum + xs[i].size := by
          rw [List.take_add_one, List.sum_append, List.getElem?_map, List.getElem?_eq_getElem hil]; simp [tot]
        have H9 := hid h9
        have hbs := hf _ (List.getElem_mem hil)
        clear hb h9
        generalize xs[i] = b at *
        unfold maxLen at hbs
        by_cases hrn : lf - b.size < 0
        · go_wp2_with (refine wl_idxload rfl rfl rfl rfl (fun _ => rfl) rfl rfl (h2.ext he) Hv.out (by omega) (by omega) ?_; intro u hu; rw [Int.toNat_natCast, Hb.out] at hu; cases hu)
          go_ret
          exact ⟨⟨-1, rfl, .inl (by omega)⟩, he⟩
        · go_wp2_with (refine wl_idxload rfl rfl rfl rfl (fun _ => rfl) rfl rfl (h2.ext he) Hv.out (by omega) (by omega) ?_; intro u hu; rw [Int.toNat_natCast, Hb.out] at hu; cases hu)
          go_roundw
          case rel =>
            exact ⟨i + 1, lf - b.size, by omega, by go_num, rfl, by omega, by omega, by rw [Hid, H9.out, Hlf.out]; omega, he⟩
          case measure => simp [intOf]; omega
      · obtain rfl : i = n := by omega
        go_wp2
        go_ret
        refine ⟨⟨lf, rfl, .inr ⟨?_, hf0⟩⟩, he⟩
        have h8 := Hlf.out
        rw [List.take_of_length_le (by rw [List.length_map, HL.out]; exact Nat.le_refl _)] at h8
        have := Ht.out
        omega

end Go.Proofs.Ytmcafdcabbighaa
