/- The harness on lists: ModelS. -/
import Derived.Test.YthphfmngofbabaaPlain
import Derived.Test.YthphfmngofbabaaHModel
namespace Go.Proofs.Ythphfmngofbabaa
set_option linter.unusedSimpArgs false
set_option linter.unusedVariables false
open Go.RowKit

abbrev shModelS : Sh := .sl shModel
instance slModelSimpl : SlTy Try.prog 61 33 1 (.agg #[.slice none 0 0]) 24 := ⟨by kernel_rfl, by kernel_rfl, by kernel_rfl, by decide, by decide⟩
instance szModelSimpl : SlTy Try.prog 61 33 (Sh.sz shModel) (.agg #[.slice none 0 0]) 24 := slModelSimpl
instance elModelSimpl : ElTy Try.prog 33 shModel := ⟨by kernel_rfl, by kernel_rfl⟩
instance slModelSlaws : SlTy Try.prog 58 24 1 (.agg #[.slice none 0 0]) 24 := ⟨by kernel_rfl, by kernel_rfl, by kernel_rfl, by decide, by decide⟩
instance szModelSlaws : SlTy Try.prog 58 24 (Sh.sz shModel) (.agg #[.slice none 0 0]) 24 := slModelSlaws
instance elModelSlaws : ElTy Try.prog 24 shModel := ⟨by kernel_rfl, by kernel_rfl⟩

set_option maxRecDepth 100000 in
set_option maxHeartbeats 1000000 in
theorem eqModelS_ok : EqOk 36 shModelS := by
  intro cs cs' l w hu hv hn
  obtain ⟨p, c, css, rfl, h2, h3, h4, h5, h6, h7⟩ := rep_sl hu
  obtain ⟨q, d, css', rfl, g2, g3, g4, g5, g6, g7⟩ := rep_sl hv
  have hle := Nat.le_trans (tot_len l) hn
  generalize hL : l.length = n at *
  have HL := hid hL
  clear hL
  simp only [ofCs, Sh.agg, List.headD_cons, Bool.false_eq_true, if_false]
  go_enter Try.func36, Try.ntmps36
  go_wp2
  go_loopw [5] (fun iv wr => ∃ i : Nat, i ≤ n ∧ iv = .int .i64 i ∧ Ext w wr) (fun iv _ => n - (intOf iv).toNat)
  case atStart => exact ⟨0, by omega, rfl, Ext.refl w⟩
  case round =>
    obtain ⟨i, hi, rfl, he⟩ := hrel
    by_cases hlt : i < n
    · have hp' := (h2.ext he).ext (Ext.drew wr)
      have hq' := (g2.ext he).ext (Ext.drew wr)
      have hil : i < l.length := by rw [HL.out]; exact hlt
      obtain ⟨ci, hci, ri⟩ := h5.get i l[i] (by simp)
      obtain ⟨di, hdi, si⟩ := g5.get i l[i] (by simp)
      have hs1 := h2.some_of h6 (by decide) (show 0 < css.length by omega)
      have hs2 := g2.some_of g6 (by decide) (show 0 < css'.length by omega)
      have hb := Nat.le_trans (Nat.le_trans (Nat.le_add_right _ _) (tot_get l i hil)) hn
      go_wp2_with fail
      refine wp_region_xall (F := fun _ _ u => u = .bool true) (by kernel_rfl) (by kernel_rfl) (by kernel_rfl) ?_
      intro wf hwf
      refine x_mv rfl rfl rfl ?_
      simp only [Act.put, ev_tmp, List.setIfInBounds_toArray, List.set_cons_succ, List.set_cons_zero, List.getD_cons_succ, List.getD_cons_zero]
      refine x_mv rfl rfl rfl ?_
      simp only [Act.put, ev_tmp, List.setIfInBounds_toArray, List.set_cons_succ, List.set_cons_zero, List.getD_cons_succ, List.getD_cons_zero]
      refine x_idxloadE (s := shModel) (j := i) rfl rfl (fun _ => rfl) rfl (fun _ => rfl) rfl rfl rfl hp' h6 h7 hlt hs1 hci ?_
      simp only [Act.put, ev_tmp, List.setIfInBounds_toArray, List.set_cons_succ, List.set_cons_zero, List.getD_cons_succ, List.getD_cons_zero]
      refine x_mv rfl rfl rfl ?_
      simp only [Act.put, ev_tmp, List.setIfInBounds_toArray, List.set_cons_succ, List.set_cons_zero, List.getD_cons_succ, List.getD_cons_zero]
      refine x_mv rfl rfl rfl ?_
      simp only [Act.put, ev_tmp, List.setIfInBounds_toArray, List.set_cons_succ, List.set_cons_zero, List.getD_cons_succ, List.getD_cons_zero]
      refine x_idxloadE (s := shModel) (j := i) rfl rfl (fun _ => rfl) rfl (fun _ => rfl) rfl rfl rfl hq' g6 g7 hlt hs2 hdi ?_
      simp only [Act.put, ev_tmp, List.setIfInBounds_toArray, List.set_cons_succ, List.set_cons_zero, List.getD_cons_succ, List.getD_cons_zero]
      refine x_callf (f := 29) (args := #[ofCs shModel ci, ofCs shModel di]) rfl rfl Try.func29 rfl (by kernel_rfl) (by simp [Act.eval]) (fun w1 hw1 => (eqModel_ok ci di l[i] w1 (((ri.ext he).ext (Ext.drew wr)).ext hw1) (((si.ext he).ext (Ext.drew wr)).ext hw1) hb).mono fun e w3 h => ⟨_, h.1, h.2, rfl⟩) ?_
      rintro u w3 _ _ rfl
      simp only [Act.put, ev_tmp, List.setIfInBounds_toArray, List.set_cons_succ, List.set_cons_zero, List.getD_cons_succ, List.getD_cons_zero]
      refine x_run rfl fun K hK w1 _ => ?_
      go_simp
      refine hK _ ?_
      clear hK K
      refine x_nil ?_
      have he' := (he.trans (Ext.drew wr)).trans hwf
      clear hwf hp' hq' he
      go_wp2
      go_roundw
      case rel => exact ⟨i + 1, by omega, by go_num, he'⟩
      case measure => simp [intOf]; omega
    · obtain rfl : i = n := by omega
      go_wp2
      go_ret
      exact ⟨rfl, he⟩

set_option maxRecDepth 100000 in
set_option maxHeartbeats 1000000 in
theorem szModelS_ok : SzOk 32 shModelS := by
  intro cs l left w hu hl0 hl1
  obtain ⟨p, c, css, rfl, h2, h3, h4, h5, h6, h7⟩ := rep_sl hu
  have hle := Nat.le_trans h3 h4
  have ht := tot_sl l
  have hts := fun i hi => sum_take_le id (l.map (tot shModel)) i hi
  generalize hL : l.length = n at *
  have HL := hid hL
  clear hL
  unfold maxLen at hle
  generalize hT : tot shModelS l = T at *
  have HT := hid hT
  have Ht := hid ht
  clear hT ht
  simp only [ofCs, Sh.agg, List.headD_cons, Bool.false_eq_true, if_false]
  by_cases hneg : left - n < 0
  · go_enter Try.func32, Try.ntmps32
    go_wp2
    go_ret
    exact ⟨⟨-1, rfl, .inl (by omega)⟩, Ext.refl _⟩
  · go_enter Try.func32, Try.ntmps32
    go_wp2
    go_loopw [1, 5] (fun lv iv wr => ∃ (i : Nat) (lf : Int), i ≤ n ∧ iv = .int .i64 i ∧ lv = .int .i64 lf ∧ 0 ≤ lf ∧ lf ≤ 1048576 ∧ Hid (lf = left - n - (((l.map (tot shModel)).take i).sum : Nat)) ∧ Ext w wr) (fun _ iv _ => n - (intOf iv).toNat)
    case atStart => exact ⟨0, left - n, by omega, rfl, rfl, by omega, by omega, by unfold Hid; simp, Ext.refl w⟩
    case round =>
      obtain ⟨i, lf, hi, rfl, rfl, hf0, hf1, Hlf, he⟩ := hrel
      by_cases hlt : i < n
      · have hp' := h2.ext he
        have hil : i < l.length := by rw [HL.out]; exact hlt
        obtain ⟨ci, hci, ri⟩ := h5.get i l[i] (by simp)
        have hs1 := h2.some_of h6 (by decide) (show 0 < css.length by omega)
        go_wp2_with (refine wl_idxloadE (s := shModel) (j := i) rfl rfl rfl rfl (fun _ => rfl) rfl rfl rfl hp' h6 h7 hlt hs1 hci ?_)
        refine (szModel_ok ci l[i] lf _ (ri.ext he) hf0 hf1).mono ?_
        rintro e w1 ⟨⟨r, rfl, hr⟩, e1⟩
        by_cases hrn : r < 0
        · go_wp2
          go_ret
          exact ⟨⟨-1, rfl, .inl (by omega)⟩, he.trans e1⟩
        · have hr' : r = lf - (tot shModel l[i] : Int) := by rcases hr with h | h; exact absurd h hrn; exact h.1
          have Hr := hid hr'
          have hr1 : r ≤ 1048576 := by omega
          clear hr hr'
          go_wp2
          go_roundw
          case rel =>
            refine ⟨i + 1, r, by omega, by go_num, rfl, by omega, hr1, ?_, he.trans e1⟩
            have h9 : ((l.map (tot shModel)).take (i + 1)).sum = ((l.map (tot shModel)).take i).sum + tot shModel l[i] := by
              rw [List.take_add_one, List.sum_append, List.getElem?_map, List.getElem?_eq_getElem hil]; simp
            rw [Hid, h9, Hr.out, Hlf.out]; omega
          case measure => simp [intOf]; omega
      · obtain rfl : i = n := by omega
        go_wp2
        go_ret
        refine ⟨⟨lf, rfl, .inr ⟨?_, hf0⟩⟩, he⟩
        have h8 := Hlf.out
        rw [List.take_of_length_le (by rw [List.length_map, HL.out]; exact Nat.le_refl _)] at h8
        have := Ht.out
        omega

set_option maxRecDepth 100000 in
set_option maxHeartbeats 1000000 in
theorem toModelS_ok : ToOk 34 shModelS := by
  intro cs l w hu hn
  obtain ⟨p, c, css, rfl, h2, h3, h4, h5, h6, h7⟩ := rep_sl hu
  have hle := Nat.le_trans (tot_len l) hn
  generalize hL : l.length = n at *
  have HL := hid hL
  clear hL
  simp only [ofCs, Sh.agg, List.headD_cons, Bool.false_eq_true, if_false]
  go_enter Try.func34, Try.ntmps34
  go_wp2_with (refine wl_make w.heap.size n rfl rfl rfl rfl (by unfold maxLen; omega) (by omega) (Nat.le_refl _) ?_; intro g w1 own1 e1)
  have hg := (own_B own1).1
  obtain ⟨us0, hu0, hu1, hu2⟩ := made_rows (z := (.agg #[.slice none 0 0])) (s := Sh.sz shModel) n rfl
  have own2 : OwnRow w1 (some ⟨g, 0, none⟩) n n us0.flatten := by rw [hu0]; exact ownRow_of own1
  go_loopw [4] (fun iv wr => ∃ (i : Nat) (us : List (List Value)) (bss : List (List Nat)), i ≤ n ∧ iv = .int .i64 i ∧ us.length = n ∧ (∀ c ∈ us, c.length = Sh.sz shModel) ∧ OwnRow wr (some ⟨g, 0, none⟩) n n us.flatten ∧ Hid (OwnEs wr shModel (us.take i) bss (l.take i)) ∧ Hid (bss.flatten.Nodup) ∧ Hid (∀ b ∈ bss.flatten, w.heap.size ≤ b ∧ b ≠ g) ∧ Ext w wr ∧ g < wr.heap.size) (fun iv _ => n - (intOf iv).toNat)
  case atStart => exact ⟨0, us0, [], by omega, rfl, hu1, hu2, own2, ⟨by simp, by simp, fun i cs bs d h => by simp at h⟩, by simp [Hid], by simp [Hid], e1, (own_B own1).2⟩
  case round =>
    clear own1 own2 e1 hu0 hu1 hu2
    obtain ⟨i, us, bss, hi, rfl, hul, hall, own1, Hes, Hnd, Hlo, e1, hgl⟩ := hrel
    by_cases hlt : i < n
    · have hcw := h2.ext e1
      have hil : i < l.length := by rw [HL.out]; exact hlt
      obtain ⟨ci, hci, ri⟩ := h5.get i l[i] (by simp)
      have hs1 := h2.some_of h6 (by decide) (show 0 < css.length by omega)
      have hb := Nat.le_trans (Nat.le_trans (Nat.le_add_right _ _) (tot_get l i hil)) hn
      go_wp2_with (refine wl_idxloadE (s := shModel) (j := i) rfl rfl rfl rfl (fun _ => rfl) rfl rfl rfl hcw h6 h7 hlt hs1 hci ?_)
      refine (toModel_ok ci l[i] _ (ri.ext e1) hb).mono ?_
      rintro e w2 ⟨di, bs, rfl, ow, nd, lo, e2⟩
      have own2 := own1.chg (.of_ext e2) (S := fun _ => False) (fun _ _ h => h)
      have hdl := ow.rep.size
      have hd1 := ow.rep.one
      go_wp2_with (first | (refine wl_idxE (s := Sh.sz shModel) rfl rfl rfl rfl rfl rfl hlt ?_) | (refine wl_storeE (s := shModel) (cs := di) rfl rfl rfl rfl own2 hall (by omega) hdl (by decide) hd1 ?_; intro w3 own3 ch3))
      have hgb : ∀ b ∈ bs, ¬ b ∈ blocksOf (some ⟨g, 0, none⟩) := fun b hb h => by have := lo b hb; simp [blocksOf] at h; omega
      have lt1 : ∀ b ∈ bss.flatten, b < wr.heap.size := fun b hb => by
        obtain ⟨bj, hm, hbj⟩ := List.mem_flatten.1 hb
        obtain ⟨j, hj, rfl⟩ := List.mem_iff_getElem.1 hm
        have k1 := Hes.out.1; have k2 := Hes.out.2.1
        exact (Hes.out.2.2 j ((us.take i)[j]'(by omega)) bss[j] ((l.take i)[j]'(by omega)) (List.getElem?_eq_getElem _) (List.getElem?_eq_getElem _) (List.getElem?_eq_getElem _)).lt b hbj
      have es3 : OwnEs w3 shModel (us.take i) bss (l.take i) := (Hes.out.chg (.of_ext e2) (S := fun _ => False) (fun _ _ h => h)).chg ch3 fun b hb h => by simp [blocksOf] at h; exact (Hlo.out b hb).2 h
      have ow3 : Own w3 shModel di l[i] bs := ow.chg ch3 hgb
      go_roundw
      case rel =>
        refine ⟨i + 1, us.set i di, bss ++ [bs], by omega, by go_num, by rw [List.length_set]; exact hul, all_set hall hdl, own3, ?_, ?_, ?_, ?_, ?_⟩
        · rw [take_set_succ (by omega), List.take_add_one, List.getElem?_eq_getElem hil]
          exact es3.snoc ow3
        · unfold Hid
          rw [List.flatten_append, List.flatten_cons, List.flatten_nil, List.append_nil]
          exact nodup_app Hnd.out nd lt1 lo
        · intro b hb
          rw [List.flatten_append, List.flatten_cons, List.flatten_nil, List.append_nil, List.mem_append] at hb
          rcases hb with hb | hb
          · exact Hlo.out b hb
          · have := lo b hb; have := e1.size; exact ⟨by omega, by omega⟩
        · exact (e1.trans e2).chg ch3 fun b hb => by simp [blocksOf] at hb; omega
        · have := ch3.size; have := e2.size; omega
      case measure => simp [intOf]; omega
    · obtain rfl : i = n := by omega
      go_wp2
      go_ret
      have k1 := Hes.out
      rw [List.take_of_length_le (by omega), List.take_of_length_le (by rw [HL.out]; exact Nat.le_refl _)] at k1
      have k2 := HL.out
      refine ⟨_, g :: bss.flatten, rfl, own_sl.2 ⟨some ⟨g, 0, none⟩, i, us, bss, by first | (rw [k2]; done) | (rw [k2]; rfl), by rw [k2]; exact own1, by omega, by unfold maxLen; omega, k1, rfl⟩, ?_, ?_, e1⟩
      · rw [List.nodup_cons]; exact ⟨fun h => (Hlo.out g h).2 rfl, Hnd.out⟩
      · intro b hb; rcases List.mem_cons.1 hb with rfl | hb
        · exact hg
        · exact (Hlo.out b hb).1
end Go.Proofs.Ythphfmngofbabaa
