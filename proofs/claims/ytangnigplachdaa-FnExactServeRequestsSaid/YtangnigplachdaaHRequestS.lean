/- The harness on lists: RequestS. -/
import Derived.Test.YtangnigplachdaaKb
import Derived.Test.YtangnigplachdaaHRequest
namespace Go.Proofs.Ytangnigplachdaa
set_option linter.unusedSimpArgs false
set_option linter.unusedVariables false
open Go.RowKit

abbrev shRequestS : Sh := .sl shRequest
instance slRequestSimpl : SlTy Try.prog 87 164 2 (.agg #[.int .i64 0, .slice none 0 0]) 32 := ⟨by kernel_rfl, by kernel_rfl, by kernel_rfl, by decide, by decide⟩
instance szRequestSimpl : SlTy Try.prog 87 164 (Sh.sz shRequest) (.agg #[.int .i64 0, .slice none 0 0]) 32 := slRequestSimpl
instance elRequestSimpl : ElTy Try.prog 164 shRequest := ⟨by kernel_rfl, by kernel_rfl⟩
instance slRequestSlaws : SlTy Try.prog 82 162 2 (.agg #[.int .i64 0, .slice none 0 0]) 32 := ⟨by kernel_rfl, by kernel_rfl, by kernel_rfl, by decide, by decide⟩
instance szRequestSlaws : SlTy Try.prog 82 162 (Sh.sz shRequest) (.agg #[.int .i64 0, .slice none 0 0]) 32 := slRequestSlaws
instance elRequestSlaws : ElTy Try.prog 162 shRequest := ⟨by kernel_rfl, by kernel_rfl⟩

set_option maxRecDepth 100000 in
set_option maxHeartbeats 1000000 in
theorem eqRequestS_ok : EqOk 56 shRequestS := by
  intro cs cs' l w hu hv hn
  obtain ⟨p, c, css, rfl, h2, h3, h4, h5, h6, h7⟩ := rep_sl hu
  obtain ⟨q, d, css', rfl, g2, g3, g4, g5, g6, g7⟩ := rep_sl hv
  have hle := Nat.le_trans (tot_len l) hn
  generalize hL : l.length = n at *
  have HL := hid hL
  clear hL
  simp only [ofCs, Sh.agg, List.headD_cons, Bool.false_eq_true, if_false]
  go_enter Try.func56, Try.ntmps56
  go_wp2
  go_loopw [5] (fun iv wr => ∃ i : Nat, i ≤ n ∧ iv = .int .i64 i ∧ Ext w wr) (fun iv _ => n - (intOf iv).toNat)
  case atStart => exact ⟨0, by omega, rfl, Ext.refl w⟩
  case round =>
    obtain ⟨i, hi, rfl, he⟩ := hrel
    by_cases hlt : i < n
    · have hp' := (h2.ext he).ext (Ext.drew wr)
      have hq' := (g2.ext he).ext (Ext.drew wr)
      have hil : i < l.length := by rw [HL.out]; exact hlt
      obtain ⟨ci, hci, ri⟩ := h5.get i l[i] (by simp)
      obtain ⟨di, hdi, si⟩ := g5.get i l[i] (by simp)
      have hs1 := h2.some_of h6 (by decide) (show 0 < css.length by omega)
      have hs2 := g2.some_of g6 (by decide) (show 0 < css'.length by omega)
      have hb := Nat.le_trans (Nat.le_trans (Nat.le_add_right _ _) (tot_get l i hil)) hn
      go_wp2_with fail
      refine wp_region_xall (F := fun _ _ u => u = .bool true) (by kernel_rfl) (by kernel_rfl) (by kernel_rfl) ?_
      intro wf hwf
      refine x_mv rfl rfl rfl ?_
      simp only [Act.put, ev_tmp, List.setIfInBounds_toArray, List.set_cons_succ, List.set_cons_zero, List.getD_cons_succ, List.getD_cons_zero]
      refine x_mv rfl rfl rfl ?_
      simp only [Act.put, ev_tmp, List.setIfInBounds_toArray, List.set_cons_succ, List.set_cons_zero, List.getD_cons_succ, List.getD_cons_zero]
      refine x_idxloadE (s := shRequest) (j := i) rfl rfl (fun _ => rfl) rfl (fun _ => rfl) rfl rfl rfl hp' h6 h7 hlt hs1 hci ?_
      simp only [Act.put, ev_tmp, List.setIfInBounds_toArray, List.set_cons_succ, List.set_cons_zero, List.getD_cons_succ, List.getD_cons_zero]
      refine x_mv rfl rfl rfl ?_
      simp only [Act.put, ev_tmp, List.setIfInBounds_toArray, List.set_cons_succ, List.set_cons_zero, List.getD_cons_succ, List.getD_cons_zero]
      refine x_mv rfl rfl rfl ?_
      simp only [Act.put, ev_tmp, List.setIfInBounds_toArray, List.set_cons_succ, List.set_cons_zero, List.getD_cons_succ, List.getD_cons_zero]
      refine x_idxloadE (s := shRequest) (j := i) rfl rfl (fun _ => rfl) rfl (fun _ => rfl) rfl rfl rfl hq' g6 g7 hlt hs2 hdi ?_
      simp only [Act.put, ev_tmp, List.setIfInBounds_toArray, List.set_cons_succ, List.set_cons_zero, List.getD_cons_succ, List.getD_cons_zero]
      refine x_callf (f := 123) (args := #[ofCs shRequest ci, ofCs shRequest di]) rfl rfl Try.func123 rfl (by kernel_rfl) (by simp [Act.eval]) (fun w1 hw1 => (eqRequest_ok ci di l[i] w1 (((ri.ext he).ext (Ext.drew wr)).ext hw1) (((si.ext he).ext (Ext.drew wr)).ext hw1) hb).mono fun e w3 h => ⟨_, h.1, h.2, rfl⟩) ?_
      rintro u w3 _ _ rfl
      simp only [Act.put, ev_tmp, List.setIfInBounds_toArray, List.set_cons_succ, List.set_cons_zero, List.getD_cons_succ, List.getD_cons_zero]
      refine x_run rfl fun K hK w1 _ => ?_
      go_simp
      refine hK _ ?_
      clear hK K
      refine x_nil ?_
      have he' := (he.trans (Ext.drew wr)).trans hwf
      clear hwf hp' hq' he
      go_wp2
      go_roundw
      case rel => exact ⟨i + 1, by omega, by go_num, he'⟩
      case measure => simp [intOf]; omega
    · obtain rfl : i = n := by omega
      go_wp2
      go_ret
      exact ⟨rfl, he⟩

set_option maxRecDepth 100000 in
set_option maxHeartbeats 1000000 in
theorem szRequestS_ok : SzOk 51 shRequestS := by
  intro cs l left w hu hl0 hl1
  obtain ⟨p, c, css, rfl, h2, h3, h4, h5, h6, h7⟩ := rep_sl hu
  have hle := Nat.le_trans h3 h4
  have ht := tot_sl l
  have hts := fun i hi => sum_take_le id (l.map (tot shRequest)) i hi
  generalize hL : l.length = n at *
  have HL := hid hL
  clear hL
  unfold maxLen at hle
  generalize hT : tot shRequestS l = T at *
  have HT := hid hT
  have Ht := hid ht
  clear hT ht
  simp only [ofCs, Sh.agg, List.headD_cons, Bool.false_eq_true, if_false]
  by_cases hneg : left - n < 0
  · go_enter Try.func51, Try.ntmps51
    go_wp2
    go_ret
    exact ⟨⟨-1, rfl, .inl (by omega)⟩, Ext.refl _⟩
  · go_enter Try.func51, Try.ntmps51
    go_wp2
    go_loopw [1, 5] (fun lv iv wr => ∃ (i : Nat) (lf : Int), i ≤ n ∧ iv = .int .i64 i ∧ lv = .int .i64 lf ∧ 0 ≤ lf ∧ lf ≤ 1048576 ∧ Hid (lf = left - n - (((l.map (tot shRequest)).take i).sum : Nat)) ∧ Ext w wr) (fun _ iv _ => n - (intOf iv).toNat)
    case atStart => exact ⟨0, left - n, by omega, rfl, rfl, by omega, by omega, by unfold Hid; simp, Ext.refl w⟩
    case round =>
      obtain ⟨i, lf, hi, rfl, rfl, hf0, hf1, Hlf, he⟩ := hrel
      by_cases hlt : i < n
      · have hp' := h2.ext he
        have hil : i < l.length := by rw [HL.out]; exact hlt
        obtain ⟨ci, hci, ri⟩ := h5.get i l[i] (by simp)
        have hs1 := h2.some_of h6 (by decide) (show 0 < css.length by omega)
        go_wp2_with (refine wl_idxloadE (s := shRequest) (j := i) rfl rfl rfl rfl (fun _ => rfl) rfl rfl rfl hp' h6 h7 hlt hs1 hci ?_)
        refine (szRequest_ok ci l[i] lf _ (ri.ext he) hf0 hf1).mono ?_
        rintro e w1 ⟨⟨r, rfl, hr⟩, e1⟩
        by_cases hrn : r < 0
        · go_wp2
          go_ret
          exact ⟨⟨-1, rfl, .inl (by omega)⟩, he.trans e1⟩
        · have hr' : r = lf - (tot shRequest l[i] : Int) := by rcases hr with h | h; exact absurd h hrn; exact h.1
          have Hr := hid hr'
          have hr1 : r ≤ 1048576 := by omega
          clear hr hr'
          go_wp2
          go_roundw
          case rel =>
            refine ⟨i + 1, r, by omega, by go_num, rfl, by omega, hr1, ?_, he.trans e1⟩
            have h9 : ((l.map (tot shRequest)).take (i + 1)).sum = ((l.map (tot shRequest)).take i).sum + tot shRequest l[i] := by
              rw [List.take_add_one, List.sum_append, List.getElem?_map, List.getElem?_eq_getElem hil]; simp
            rw [Hid, h9, Hr.out, Hlf.out]; omega
          case measure => simp [intOf]; omega
      · obtain rfl : i = n := by omega
        go_wp2
        go_ret
        refine ⟨⟨lf, rfl, .inr ⟨?_, hf0⟩⟩, he⟩
        have h8 := Hlf.out
        rw [List.take_of_length_le (by rw [List.length_map, HL.out]; exact Nat.le_refl _)] at h8
        have := Ht.out
        omega

set_option maxRecDepth 100000 in
set_option maxHeartbeats 1000000 in
theorem toRequestS_ok : ToOk 53 shRequestS := by
  intro cs l w hu hn
  obtain ⟨p, c, css, rfl, h2, h3, h4, h5, h6, h7⟩ := rep_sl hu
  have hle := Nat.le_trans (tot_len l) hn
  generalize hL : l.length = n at *
  have HL := hid hL
  clear hL
  simp only [ofCs, Sh.agg, List.headD_cons, Bool.false_eq_true, if_false]
  go_enter Try.func53, Try.ntmps53
  go_wp2_with (refine wl_make w.heap.size n rfl rfl rfl rfl (by unfold maxLen; omega) (by omega) (Nat.le_refl _) ?_; intro g w1 own1 e1)
  have hg := (own_B own1).1
  obtain ⟨us0, hu0, hu1, hu2⟩ := made_rows (z := (.agg #[.int .i64 0, .slice none 0 0])) (s := Sh.sz shRequest) n rfl
  have own2 : OwnRow w1 (some ⟨g, 0, none⟩) n n us0.flatten := by rw [hu0]; exact ownRow_of own1
  go_loopw [4] (fun iv wr => ∃ (i : Nat) (us : List (List Value)) (bss : List (List Nat)), i ≤ n ∧ iv = .int .i64 i ∧ us.length = n ∧ (∀ c ∈ us, c.length = Sh.sz shRequest) ∧ OwnRow wr (some ⟨g, 0, none⟩) n n us.flatten ∧ Hid (OwnEs wr shRequest (us.take i) bss (l.take i)) ∧ Hid (bss.flatten.Nodup) ∧ Hid (∀ b ∈ bss.flatten, w.heap.size ≤ b ∧ b ≠ g) ∧ Ext w wr ∧ g < wr.heap.size) (fun iv _ => n - (intOf iv).toNat)
  case atStart => exact ⟨0, us0, [], by omega, rfl, hu1, hu2, own2, ⟨by simp, by simp, fun i cs bs d h => by simp at h⟩, by simp [Hid], by simp [Hid], e1, (own_B own1).2⟩
  case round =>
    clear own1 own2 e1 hu0 hu1 hu2
    obtain ⟨i, us, bss, hi, rfl, hul, hall, own1, Hes, Hnd, Hlo, e1, hgl⟩ := hrel
    by_cases hlt : i < n
    · have hcw := h2.ext e1
      have hil : i < l.length := by rw [HL.out]; exact hlt
      obtain ⟨ci, hci, ri⟩ := h5.get i l[i] (by simp)
      have hs1 := h2.some_of h6 (by decide) (show 0 < css.length by omega)
      have hb := Nat.le_trans (Nat.le_trans (Nat.le_add_right _ _) (tot_get l i hil)) hn
      go_wp2_with (refine wl_idxloadE (s := shRequest) (j := i) rfl rfl rfl rfl (fun _ => rfl) rfl rfl rfl hcw h6 h7 hlt hs1 hci ?_)
      refine (toRequest_ok ci l[i] _ (ri.ext e1) hb).mono ?_
      rintro e w2 ⟨di, bs, rfl, ow, nd, lo, e2⟩
      have own2 := own1.chg (.of_ext e2) (S := fun _ => False) (fun _ _ h => h)
      have hdl := ow.rep.size
      have hd1 := ow.rep.one
      go_wp2_with (first | (refine wl_idxE (s := Sh.sz shRequest) rfl rfl rfl rfl rfl rfl hlt ?_) | (refine wl_storeE (s := shRequest) (cs := di) rfl rfl rfl rfl own2 hall (by omega) hdl (by decide) hd1 ?_; intro w3 own3 ch3))
      have hgb : ∀ b ∈ bs, ¬ b ∈ blocksOf (some ⟨g, 0, none⟩) := fun b hb h => by have := lo b hb; simp [blocksOf] at h; omega
      have lt1 : ∀ b ∈ bss.flatten, b < wr.heap.size := fun b hb => by
        obtain ⟨bj, hm, hbj⟩ := List.mem_flatten.1 hb
        obtain ⟨j, hj, rfl⟩ := List.mem_iff_getElem.1 hm
        have k1 := Hes.out.1; have k2 := Hes.out.2.1
        exact (Hes.out.2.2 j ((us.take i)[j]'(by omega)) bss[j] ((l.take i)[j]'(by omega)) (List.getElem?_eq_getElem _) (List.getElem?_eq_getElem _) (List.getElem?_eq_getElem _)).lt b hbj
      have es3 : OwnEs w3 shRequest (us.take i) bss (l.take i) := (Hes.out.chg (.of_ext e2) (S := fun _ => False) (fun _ _ h => h)).chg ch3 fun b hb h => by simp [blocksOf] at h; exact (Hlo.out b hb).2 h
      have ow3 : Own w3 shRequest di l[i] bs := ow.chg ch3 hgb
      go_roundw
      case rel =>
        refine ⟨i + 1, us.set i di, bss ++ [bs], by omega, by go_num, by rw [List.length_set]; exact hul, all_set hall hdl, own3, ?_, ?_, ?_, ?_, ?_⟩
        · rw [take_set_succ (by omega), List.take_add_one, List.getElem?_eq_getElem hil]
          exact es3.snoc ow3
        · unfold Hid
          rw [List.flatten_append, List.flatten_cons, List.flatten_nil, List.append_nil]
          exact nodup_app Hnd.out nd lt1 lo
        · intro b hb
          rw [List.flatten_append, List.flatten_cons, List.flatten_nil, List.append_nil, List.mem_append] at hb
          rcases hb with hb | hb
          · exact Hlo.out b hb
          · have := lo b hb; have := e1.size; exact ⟨by omega, by omega⟩
        · exact (e1.trans e2).chg ch3 fun b hb => by simp [blocksOf] at hb; omega
        · have := ch3.size; have := e2.size; omega
      case measure => simp [intOf]; omega
    · obtain rfl : i = n := by omega
      go_wp2
      go_ret
      have k1 := Hes.out
      rw [List.take_of_length_le (by omega), List.take_of_length_le (by rw [HL.out]; exact Nat.le_refl _)] at k1
      have k2 := HL.out
      refine ⟨_, g :: bss.flatten, rfl, own_sl.2 ⟨some ⟨g, 0, none⟩, i, us, bss, by first | (rw [k2]; done) | (rw [k2]; rfl), by rw [k2]; exact own1, by omega, by unfold maxLen; omega, k1, rfl⟩, ?_, ?_, e1⟩
      · rw [List.nodup_cons]; exact ⟨fun h => (Hlo.out g h).2 rfl, Hnd.out⟩
      · intro b hb; rcases List.mem_cons.1 hb with rfl | hb
        · exact hg
        · exact (Hlo.out b hb).1

set_option maxRecDepth 100000 in
set_option maxHeartbeats 1000000 in
theorem markRequestS_ok : MarkOk 57 shRequestS := by
  intro cs l bs k w hu hnd hk0 hk
  obtain ⟨p, c, css0, bss, rfl, h2, h3, h4, h5, rfl⟩ := own_sl.1 hu
  have hle := Nat.le_trans h3 h4
  have hk' : k + 64 * (tot (.sl shRequest) l : Int) ≤ 68719476736 := hk
  have h6 := h5.all
  have h7 := h5.1
  obtain ⟨nd1, nd2, nd3, nd4⟩ := nodup_split hnd
  generalize hL : l.length = n at *
  have HL := hid hL
  clear hL hu
  unfold maxLen at hle
  simp only [ofCs, Sh.agg, List.headD_cons, Bool.false_eq_true, if_false]
  go_enter Try.func57, Try.ntmps57
  go_wp2
  go_loopw [1, 5] (fun kv iv wr => ∃ (i : Nat) (css : List (List Value)), i ≤ n ∧ iv = .int .i64 i ∧ kv = .int .i64 (mkK shRequest l k i) ∧ OwnRow wr p n c css.flatten ∧ Hid (OwnEs wr shRequest css bss (mkTo shRequest l k i)) ∧ Chg (fun b => b ∈ blocksOf p ++ bss.flatten) w wr) (fun _ iv _ => n - (intOf iv).toNat)
  case atStart => exact ⟨0, css0, by omega, rfl, by rw [mkK_zero], h2, by rw [mkTo_zero]; exact h5, Chg.refl _ _⟩
  case round =>
    clear h2 h5 h6 h7
    obtain ⟨i, css, hi, rfl, rfl, own0, H5, hch⟩ := hrel
    have h6 := H5.out.all
    have h7 : css.length = n := by have := H5.out.1; rw [length_mkTo, HL.out] at this; exact this
    by_cases hlt : i < n
    · have hil : i < l.length := by rw [HL.out]; exact hlt
      obtain ⟨b1, b2⟩ := mkK_bd shRequest (by decide) l k i hil
      obtain ⟨k1, k2⟩ := mk_succ shRequest l k i hil
      have hbl : bss.length = n := by have := H5.out.2.1; rw [length_mkTo, HL.out] at this; exact this
      have hci : css[i]? = some css[i] := by simp
      have hbi : bss[i]? = some bss[i] := by simp
      have ow := H5.out.2.2 i css[i] bss[i] l[i] hci hbi (mkTo_get _ _ _ _ hil)
      have hs1 := own0.cs.some_of h6 (by decide) (show 0 < css.length by omega)
      have ndi := flat_nodup nd2 hbi
      have hin : ∀ b ∈ bss[i], b ∈ bss.flatten := fun b hb => List.mem_flatten.2 ⟨_, List.getElem_mem _, hb⟩
      have hap : ∀ j bj, j ≠ i → bss[j]? = some bj → ∀ b ∈ bj, b ∉ bss[i] := fun j bj hj hbj => flat_apart nd2 hbi hbj hj
      have K1 := hid k1
      have K2 := hid k2
      clear k1 k2
      generalize css[i] = ci at *
      generalize bss[i] = bi at *
      generalize l[i] = d at *
      generalize mkK shRequest l k i = ki at *
      obtain ⟨a1, a2, au⟩ := d
      obtain ⟨_, _, _, _, rfl, ⟨rfl, rfl⟩, ⟨_, _, ba2, _, rfl, owa2, ⟨rfl, rfl⟩, rfl⟩, rfl⟩ := ow
      obtain ⟨pa2, ca2, rfl, hla2⟩ := rep_val owa2.rep
      simp only [List.cons_append, List.nil_append, List.append_nil] at hci hbi ndi hin hap
      have nd_1 := ndi
      have in_1 : ∀ b ∈ ba2, b ∈ bss.flatten := fun b hb => hin b (by simp [hb])
      have B1 := fun kk => mkV_bd (.sl .flt) (by decide) a2 kk
      have htot : tot shRequest (a1, a2, au) = tot (.sl .flt) a2 := by simp only [tot]; omega
      rw [htot] at b2
      clear htot
      have hset : css.set i [.int .i64 a1, .slice pa2 (List.length a2) ca2] = css := by
        obtain ⟨hi9, he9⟩ := List.getElem?_eq_some_iff.1 hci
        rw [← he9]; exact List.set_getElem_self _
      have own_0 : OwnRow wr p n c (css.set i [.int .i64 a1, .slice pa2 (List.length a2) ca2]).flatten := by rw [hset]; exact own0
      have owa2_0 := owa2
      have hall_0 : ∀ x ∈ css.set i [.int .i64 a1, .slice pa2 (List.length a2) ca2], x.length = Sh.sz shRequest := all_set h6 rfl
      have hlen_0 : (css.set i [.int .i64 a1, .slice pa2 (List.length a2) ca2]).length = n := (by rw [List.length_set]; exact h7)
      have hget_0 : (css.set i [.int .i64 a1, .slice pa2 (List.length a2) ca2])[i]? = some [.int .i64 a1, .slice pa2 (List.length a2) ca2] := List.getElem?_set_self (by omega)
      go_wp2_with (first
        | ((with_reducible (show wpList _ _ _ (Oper.mk _ (Op.indexAddr _ _ _) _ _ _ _ :: Oper.mk _ (Op.fieldAddr _ _ _) _ _ _ _ :: _) _ _)); refine wl_stField (f := 0) (off := 0) (j := i) (u := .int .i64 (ki)) rfl rfl rfl rfl rfl rfl (fun _ => rfl) (fun _ _ => rfl) fo_implRequest_0 rfl rfl rfl (fun _ _ => rfl) rfl own_0 hall_0 hlen_0 hlt (by decide) hget_0 ?_; intro w1 own_1' ch1; have own_1 : OwnRow w1 p n c (css.set i [.int .i64 (ki), .slice pa2 (List.length a2) ca2]).flatten := (by first | exact own_1' | (rw [List.set_set] at own_1'; exact own_1')); have owa2_1 := owa2_0.chg ch1 (fun b hb h => nd4 b (in_1 b hb) h); have hall_1 : ∀ x ∈ css.set i [.int .i64 (ki), .slice pa2 (List.length a2) ca2], x.length = Sh.sz shRequest := all_set h6 rfl; have hlen_1 : (css.set i [.int .i64 (ki), .slice pa2 (List.length a2) ca2]).length = n := (by rw [List.length_set]; exact h7); have hget_1 : (css.set i [.int .i64 (ki), .slice pa2 (List.length a2) ca2])[i]? = some [.int .i64 (ki), .slice pa2 (List.length a2) ca2] := List.getElem?_set_self (by omega))
        | ((with_reducible (show wpList _ _ _ (Oper.mk _ (Op.indexAddr _ _ _) _ _ _ _ :: Oper.mk _ (Op.fieldAddr _ _ _) _ _ _ _ :: _) _ _)); refine wl_ldField (f := 1) (off := 1) (j := i) rfl rfl rfl rfl rfl rfl (fun _ => rfl) (fun _ _ => rfl) fo_implRequest_1 rfl rfl rfl own_1.cs hall_1 hlen_1 hlt hs1 hget_1 rfl ?_)
        )
      have Bq1 := B1 (ki + 1)
      obtain ⟨kz1, hkz1⟩ : ∃ z, z = (mkV (.sl .flt) a2 (ki + 1)).2 := ⟨_, rfl⟩
      rw [← hkz1] at Bq1
      have HZ1 := hid hkz1
      clear hkz1
      refine (markFloat32S_ok [.slice pa2 (List.length a2) ca2] a2 ba2 (ki + 1) _ owa2_1 nd_1 (by omega) (by omega)).mono ?_
      rintro e w2 ⟨rfl, owa2_2, ch2⟩
      rw [← HZ1.out]
      have own_2 := own_1.chg ch2 (fun b hb h => nd3 b hb (in_1 b h))
      have hz1 : 0 ≤ kz1 := by omega
      have hall_2 : ∀ x ∈ css.set i [.int .i64 (ki), .slice pa2 (List.length a2) ca2], x.length = Sh.sz shRequest := all_set h6 rfl
      have hlen_2 : (css.set i [.int .i64 (ki), .slice pa2 (List.length a2) ca2]).length = n := (by rw [List.length_set]; exact h7)
      have hget_2 : (css.set i [.int .i64 (ki), .slice pa2 (List.length a2) ca2])[i]? = some [.int .i64 (ki), .slice pa2 (List.length a2) ca2] := List.getElem?_set_self (by omega)
      have ow9 : Own w2 shRequest [.int .i64 (ki), .slice pa2 (List.length a2) ca2] (mkE shRequest (a1, a2, au) ki).1 ([] ++ (ba2 ++ ([]))) := by
        have g1 := HZ1.out; subst g1
        exact ⟨[.int .i64 (ki)], [.slice pa2 (List.length a2) ca2], [], (ba2 ++ ([])), rfl, ⟨rfl, rfl⟩, ⟨[.slice pa2 (List.length a2) ca2], [], ba2, ([]), rfl, owa2_2, ⟨rfl, rfl⟩, rfl⟩, rfl⟩
      simp only [List.nil_append, List.append_nil] at ow9
      have chT : Chg (fun b => b ∈ blocksOf p ++ (ba2)) wr w2 := ((ch1.mono fun b hb => List.mem_append.2 (.inl hb))).trans ((ch2.mono fun b hb => List.mem_append.2 (.inr (by simp [hb]))))
      have es2 := H5.out.upd chT hbi (fun j bj hj hbj b hb hx => by
        rcases List.mem_append.1 hx with hx | hx
        · exact nd4 b (List.mem_flatten.2 ⟨bj, List.mem_of_getElem? hbj, hb⟩) hx
        · exact hap j bj hj hbj b hb hx) ow9
      have hc2 := hch.trans (chT.mono fun b hb => by
        rcases List.mem_append.1 hb with hx | hx
        · exact List.mem_append.2 (.inl hx)
        · exact List.mem_append.2 (.inr (hin b hx)))
      go_wp2
      go_roundw
      case rel => exact ⟨i + 1, _, by omega, by go_num, by rw [K1.out, HZ1.out]; rfl, own_2, by rw [K2.out]; exact es2, hc2⟩
      case measure => simp [intOf]; omega
    · obtain rfl : i = n := by omega
      go_wp2
      go_ret
      have k1 := HL.out
      have k3 : mkTo shRequest l k i = (mkV shRequestS l k).1 := by rw [← k1]; exact mkTo_all _ l k
      have k4 : mkK shRequest l k i = (mkV shRequestS l k).2 := by rw [← k1]; exact mkK_all _ l k
      have k5 : (mkV shRequestS l k).1.length = i := by rw [← k3, length_mkTo]; exact k1
      refine ⟨by rw [k4]; rfl, own_sl.2 ⟨p, c, css, bss, ?_, by rw [k5]; exact own0, by rw [k5]; exact h3, h4, by rw [← k3]; exact H5.out, rfl⟩, hch⟩
      rw [k5]

end Go.Proofs.Ytangnigplachdaa
