/- LongestDelay of the program and of the reference. -/
import Derived.Test.YtipojkfmbolehaaInt
import Derived.Test.YtipojkfmbolehaaTen
import Derived.Test.YtipojkfmbolehaaHRequestS
import Derived.Test.YtipojkfmbolehaaHAnswerS
import Derived.Test.YtipojkfmbolehaaAgg
namespace Go.Proofs.Ytipojkfmbolehaa.lLongestDelay
set_option linter.unusedSimpArgs false
set_option linter.unusedVariables false
open Go.RowKit

def delGo : List shRequest.T → List shAnswer.T → Int → Option Int
  | q :: qs, a :: bs, m => if inB q.1 0 200000 && inB a.1 q.1 200000 then delGo qs bs (max m (a.1 - q.1)) else none
  | _, _, m => some m
def delFin : Option Int → Int × Bool
  | some m => (m, true)
  | none => (0, false)
def res (qs : List shRequest.T) (bs : List shAnswer.T) : Int × Bool :=
  if decide (qs.length ≤ 20) && decide (bs.length = qs.length) then delFin (delGo qs bs 0) else (0, false)
/-- What comes back. -/
def Got (w : World) (r : Int × Bool) (e : Ending) (w' : World) : Prop := e = .returned (.tuple #[.int .i64 r.1, .bool r.2]) ∧ Ext w w'

set_option maxRecDepth 100000 in
set_option maxHeartbeats 1000000 in
theorem impl_ok (cs0 : List Value) (D0 : shRequestS.T) (cs1 : List Value) (D1 : shAnswerS.T) (w : World) (h0 : Rep w shRequestS cs0 D0) (h1 : Rep w shAnswerS cs1 D1) :
    Calls Try.prog 42 #[ofCs shRequestS cs0, ofCs shAnswerS cs1] w (Got w (res D0 D1)) := by
  obtain ⟨p, c, css, rfl, a2, a3, a4, a5, a6, a7⟩ := rep_sl h0
  obtain ⟨q, d, dss, rfl, b2, b3, b4, b5, b6, b7⟩ := rep_sl h1
  have hm0 := Nat.le_trans a3 a4
  have hm1 := Nat.le_trans b3 b4
  unfold maxLen at hm0 hm1
  simp only [ofCs, Sh.agg, List.headD_cons, Bool.false_eq_true, if_false]
  by_cases hl : D0.length ≤ 20
  · by_cases hn : D1.length = D0.length
    · have hR : res D0 D1 = delFin (delGo D0 D1 0) := by unfold res; simp [hl, hn]
      rw [hR, hn]
      clear hR hm1 h0 h1
      generalize hG : delGo D0 D1 0 = G
      have HG := hid hG
      clear hG
      generalize hL : D0.length = n at *
      have HL := hid hL
      have HN := hid hn
      clear hL hn
      go_enter Try.func42, Try.ntmps42
      go_wp2
      go_loopw [6, 21] (fun mv iv wr => ∃ (i : Nat) (m : Int), i ≤ n ∧ iv = .int .i64 i ∧ mv = .int .i64 m ∧ 0 ≤ m ∧ m ≤ 200000 ∧ Hid (delGo (D0.drop i) (D1.drop i) m = G) ∧ Ext w wr) (fun _ iv _ => n - (intOf iv).toNat)
      case atStart => exact ⟨0, 0, by omega, rfl, rfl, by omega, by omega, by simpa [Hid] using HG.out, Ext.refl w⟩
      case round =>
        obtain ⟨i, m, hi, rfl, rfl, m0, m1, HI, he⟩ := hrel
        by_cases hlt : i < n
        · have hil : i < D0.length := by rw [HL.out]; exact hlt
          have hjl : i < D1.length := by rw [HN.out]; exact hlt
          obtain ⟨ci, hci, ri⟩ := a5.get i D0[i] (by simp)
          obtain ⟨di, hdi, si⟩ := b5.get i D1[i] (by simp)
          have hd0 : D0.drop i = D0[i] :: D0.drop (i + 1) := List.drop_eq_getElem_cons hil
          have hd1 : D1.drop i = D1[i] :: D1.drop (i + 1) := List.drop_eq_getElem_cons hjl
          have hst := HI.out
          rw [hd0, hd1] at hst
          clear hd0 hd1
          generalize D0[i] = Q at *
          generalize D1[i] = R at *
          obtain ⟨t, row, u⟩ := Q
          obtain ⟨t', bt, row', u'⟩ := R
          obtain ⟨_, _, rfl, rfl, _, _, rfl, hrow, rfl⟩ := ri
          obtain ⟨_, _, rfl, rfl, _, _, rfl, rfl, _, _, rfl, hrow', rfl⟩ := si
          obtain ⟨pr, cr, rfl, hlr⟩ := rep_val hrow
          obtain ⟨pr', cr', rfl, hlr'⟩ := rep_val hrow'
          simp only [List.cons_append, List.nil_append] at hci hdi
          simp only [delGo] at hst
          have hst := hid hst
          have hs1 := a2.some_of a6 (by decide) (show 0 < css.length by omega)
          have hs2 := b2.some_of b6 (by decide) (show 0 < dss.length by omega)
          have hp := a2.ext he
          have hq := b2.ext he
          clear a5 b5 hrow hrow' HI
          go_wp2_with (refine wl_idxloadE (s := shRequest) (j := i) rfl rfl rfl rfl (fun _ => rfl) rfl rfl rfl hp a6 a7 hlt hs1 hci ?_; simp only [ofCs, Sh.agg, if_true])
          obtain ⟨F, hF⟩ : ∃ F : Option Tmp → World → Value → Prop, F = fun d _ u => u = .bool (match d with | some 28 => inB t 0 200000 | _ => inB t' t 200000) := ⟨_, rfl⟩
          have HF := hid hF
          clear hF
          cases h1 : inB t 0 200000
          · have H1 := hid h1
            have hst2 : G = none := by have := hst.out; rw [h1] at this; simpa using this.symm
            subst hst2
            clear h1
            refine wp_region_xall (F := F) (by kernel_rfl) (by kernel_rfl) (by kernel_rfl) ?_
            intro wf hwf
            repeat (first
              | (refine x_skip rfl ?_; simp only [Act.put, ev_tmp, List.setIfInBounds_toArray, List.set_cons_succ, List.set_cons_zero, List.getD_cons_succ, List.getD_cons_zero])
              | (refine x_mv rfl rfl rfl ?_; simp only [Act.put, ev_tmp, List.setIfInBounds_toArray, List.set_cons_succ, List.set_cons_zero, List.getD_cons_succ, List.getD_cons_zero])
              | (refine x_as rfl rfl rfl ?_; simp only [Act.put, ev_tmp, List.setIfInBounds_toArray, List.set_cons_succ, List.set_cons_zero, List.getD_cons_succ, List.getD_cons_zero])
              | (refine x_ldField (j := i) (off := 0) rfl rfl (fun _ => rfl) rfl (fun _ _ => rfl) rfl (fun _ => rfl) (fun _ _ => rfl) fo_implAnswer_0 rfl rfl rfl (hq.ext ((Ext.alloc _ _).trans (Ext.drew _))) b6 (b7.trans HN.out) hlt hs2 hdi rfl ?_; simp only [Act.put, ev_tmp, List.setIfInBounds_toArray, List.set_cons_succ, List.set_cons_zero, List.getD_cons_succ, List.getD_cons_zero])
              | (refine x_callf (f := 106) (args := #[.int .i64 t, .int .i64 0, .int .i64 200000]) rfl rfl Try.func106 rfl (by kernel_rfl) ?_ ?_ ?_; (focus (simp [Act.eval]; done)); (focus (intro w1 hw1; exact (by rw [HF.out]; exact calls_same (within_any t 0 200000 w1)))); rintro u w3 e3 e4 hu; simp only [HF.out, H1.out] at hu; subst hu; simp only [Act.put, ev_tmp, List.setIfInBounds_toArray, List.set_cons_succ, List.set_cons_zero, List.getD_cons_succ, List.getD_cons_zero])
              | (refine x_callf (f := 106) (args := #[.int .i64 t', .int .i64 t, .int .i64 200000]) rfl rfl Try.func106 rfl (by kernel_rfl) ?_ ?_ ?_; (focus (simp [Act.eval]; done)); (focus (intro w1 hw1; exact (by rw [HF.out]; exact calls_same (within_any t' t 200000 w1)))); rintro u w3 e3 e4 hu; simp only [HF.out, H1.out] at hu; subst hu; simp only [Act.put, ev_tmp, List.setIfInBounds_toArray, List.set_cons_succ, List.set_cons_zero, List.getD_cons_succ, List.getD_cons_zero])
              | (refine x_run rfl fun K hK w1 hw1 => ?_; have k0 := hw1.cellOf (b := wr.heap.size) (by simp); go_simp; refine hK _ ?_; clear hK K k0 hw1 w1))
            refine x_nil ?_
            go_wp2
            go_ret2
            exact ⟨rfl, (he.trans ((Ext.alloc _ _).trans (Ext.drew _))).trans hwf⟩
          cases h2 : inB t' t 200000
          · have H1 := hid h1
            have H2 := hid h2
            have hst2 : G = none := by have := hst.out; rw [h1, h2] at this; simpa using this.symm
            subst hst2
            clear h1 h2
            refine wp_region_xall (F := F) (by kernel_rfl) (by kernel_rfl) (by kernel_rfl) ?_
            intro wf hwf
            repeat (first
              | (refine x_skip rfl ?_; simp only [Act.put, ev_tmp, List.setIfInBounds_toArray, List.set_cons_succ, List.set_cons_zero, List.getD_cons_succ, List.getD_cons_zero])
              | (refine x_mv rfl rfl rfl ?_; simp only [Act.put, ev_tmp, List.setIfInBounds_toArray, List.set_cons_succ, List.set_cons_zero, List.getD_cons_succ, List.getD_cons_zero])
              | (refine x_as rfl rfl rfl ?_; simp only [Act.put, ev_tmp, List.setIfInBounds_toArray, List.set_cons_succ, List.set_cons_zero, List.getD_cons_succ, List.getD_cons_zero])
              | (refine x_ldField (j := i) (off := 0) rfl rfl (fun _ => rfl) rfl (fun _ _ => rfl) rfl (fun _ => rfl) (fun _ _ => rfl) fo_implAnswer_0 rfl rfl rfl (hq.ext ((Ext.alloc _ _).trans (Ext.drew _))) b6 (b7.trans HN.out) hlt hs2 hdi rfl ?_; simp only [Act.put, ev_tmp, List.setIfInBounds_toArray, List.set_cons_succ, List.set_cons_zero, List.getD_cons_succ, List.getD_cons_zero])
              | (refine x_callf (f := 106) (args := #[.int .i64 t, .int .i64 0, .int .i64 200000]) rfl rfl Try.func106 rfl (by kernel_rfl) ?_ ?_ ?_; (focus (simp [Act.eval]; done)); (focus (intro w1 hw1; exact (by rw [HF.out]; exact calls_same (within_any t 0 200000 w1)))); rintro u w3 e3 e4 hu; simp only [HF.out, H1.out] at hu; subst hu; simp only [Act.put, ev_tmp, List.setIfInBounds_toArray, List.set_cons_succ, List.set_cons_zero, List.getD_cons_succ, List.getD_cons_zero])
              | (refine x_callf (f := 106) (args := #[.int .i64 t', .int .i64 t, .int .i64 200000]) rfl rfl Try.func106 rfl (by kernel_rfl) ?_ ?_ ?_; (focus (simp [Act.eval]; done)); (focus (intro w1 hw1; exact (by rw [HF.out]; exact calls_same (within_any t' t 200000 w1)))); rintro u w3 e3 e4 hu; simp only [HF.out, H2.out] at hu; subst hu; simp only [Act.put, ev_tmp, List.setIfInBounds_toArray, List.set_cons_succ, List.set_cons_zero, List.getD_cons_succ, List.getD_cons_zero])
              | (refine x_run rfl fun K hK w1 hw1 => ?_; have k0 := hw1.cellOf (b := wr.heap.size) (by simp); go_simp; refine hK _ ?_; clear hK K k0 hw1 w1))
            refine x_nil ?_
            go_wp2
            go_ret2
            exact ⟨rfl, (he.trans ((Ext.alloc _ _).trans (Ext.drew _))).trans hwf⟩
          have H1 := hid h1
          have H2 := hid h2
          have hst2 : delGo (D0.drop (i + 1)) (D1.drop (i + 1)) (max m (t' - t)) = G := by have := hst.out; rw [h1, h2] at this; simpa using this
          have Hst := hid hst2
          rw [inB_true] at h1 h2
          clear hst2 hst
          refine wp_region_xall (F := F) (by kernel_rfl) (by kernel_rfl) (by kernel_rfl) ?_
          intro wf hwf
          repeat (first
            | (refine x_skip rfl ?_; simp only [Act.put, ev_tmp, List.setIfInBounds_toArray, List.set_cons_succ, List.set_cons_zero, List.getD_cons_succ, List.getD_cons_zero])
            | (refine x_mv rfl rfl rfl ?_; simp only [Act.put, ev_tmp, List.setIfInBounds_toArray, List.set_cons_succ, List.set_cons_zero, List.getD_cons_succ, List.getD_cons_zero])
            | (refine x_as rfl rfl rfl ?_; simp only [Act.put, ev_tmp, List.setIfInBounds_toArray, List.set_cons_succ, List.set_cons_zero, List.getD_cons_succ, List.getD_cons_zero])
            | (refine x_ldField (j := i) (off := 0) rfl rfl (fun _ => rfl) rfl (fun _ _ => rfl) rfl (fun _ => rfl) (fun _ _ => rfl) fo_implAnswer_0 rfl rfl rfl (hq.ext ((Ext.alloc _ _).trans (Ext.drew _))) b6 (b7.trans HN.out) hlt hs2 hdi rfl ?_; simp only [Act.put, ev_tmp, List.setIfInBounds_toArray, List.set_cons_succ, List.set_cons_zero, List.getD_cons_succ, List.getD_cons_zero])
            | (refine x_callf (f := 106) (args := #[.int .i64 t, .int .i64 0, .int .i64 200000]) rfl rfl Try.func106 rfl (by kernel_rfl) ?_ ?_ ?_; (focus (simp [Act.eval]; done)); (focus (intro w1 hw1; exact (by rw [HF.out]; exact calls_same (within_any t 0 200000 w1)))); rintro u w3 e3 e4 hu; simp only [HF.out, H1.out] at hu; subst hu; simp only [Act.put, ev_tmp, List.setIfInBounds_toArray, List.set_cons_succ, List.set_cons_zero, List.getD_cons_succ, List.getD_cons_zero])
            | (refine x_callf (f := 106) (args := #[.int .i64 t', .int .i64 t, .int .i64 200000]) rfl rfl Try.func106 rfl (by kernel_rfl) ?_ ?_ ?_; (focus (simp [Act.eval]; done)); (focus (intro w1 hw1; exact (by rw [HF.out]; exact calls_same (within_any t' t 200000 w1)))); rintro u w3 e3 e4 hu; simp only [HF.out, H2.out] at hu; subst hu; simp only [Act.put, ev_tmp, List.setIfInBounds_toArray, List.set_cons_succ, List.set_cons_zero, List.getD_cons_succ, List.getD_cons_zero])
            | (refine x_run rfl fun K hK w1 hw1 => ?_; have k0 := hw1.cellOf (b := wr.heap.size) (by simp); go_simp; refine hK _ ?_; clear hK K k0 hw1 w1))
          refine x_nil ?_
          have x1 := hwf.cellOf (b := wr.heap.size) (by simp)
          have y1 := hwf.size
          have hb1 : wr.heap.size < wf.drew.heap.size := by simp at y1 ⊢; omega
          have E1 : Ext wr wf := ((Ext.alloc _ _).trans (Ext.drew _)).trans hwf
          have hwr : IntKind.i64.wrap (t' - t) = t' - t := wrap_in _ (by omega) (by omega)
          go_wp2
          refine wp_region_xall (F := fun _ _ _ => True) (by kernel_rfl) (by kernel_rfl) (by kernel_rfl) ?_
          intro wf hwf
          repeat (first
            | (refine x_skip rfl ?_; simp only [Act.put, ev_tmp, List.setIfInBounds_toArray, List.set_cons_succ, List.set_cons_zero, List.getD_cons_succ, List.getD_cons_zero])
            | (refine x_mv rfl rfl rfl ?_; simp only [Act.put, ev_tmp, List.setIfInBounds_toArray, List.set_cons_succ, List.set_cons_zero, List.getD_cons_succ, List.getD_cons_zero])
            | (refine x_as rfl rfl rfl ?_; simp only [Act.put, ev_tmp, List.setIfInBounds_toArray, List.set_cons_succ, List.set_cons_zero, List.getD_cons_succ, List.getD_cons_zero])
            | (refine x_ldField (j := i) (off := 0) rfl rfl (fun _ => rfl) rfl (fun _ _ => rfl) rfl (fun _ => rfl) (fun _ _ => rfl) fo_implAnswer_0 rfl rfl rfl (hq.ext (E1.trans (Ext.drew _))) b6 (b7.trans HN.out) hlt hs2 hdi rfl ?_; simp only [Act.put, ev_tmp, List.setIfInBounds_toArray, List.set_cons_succ, List.set_cons_zero, List.getD_cons_succ, List.getD_cons_zero])
            | (refine x_run rfl fun K hK w1 hw1 => ?_; have k0 := hw1.cellOf hb1; go_simp; refine hK _ ?_; clear hK K k0 hw1 w1))
          refine x_nil ?_
          go_wp2
          go_roundw
          case rel => exact ⟨i + 1, max m (t' - t), by omega, by go_num, by congr 1; rw [Int.max_def]; split <;> split <;> omega, by omega, by omega, Hst.out, (he.trans E1).trans ((Ext.drew _).trans hwf)⟩
          case measure => simp [intOf]; omega
        · obtain rfl : i = n := by omega
          have hst := HI.out
          rw [List.drop_of_length_le (by rw [HL.out]; exact Nat.le_refl _)] at hst
          have hst2 : G = some m := by rw [← hst]; simp [delGo]
          subst hst2
          go_wp2
          go_ret2
          exact ⟨rfl, he⟩
    · have hR : res D0 D1 = (0, false) := by unfold res; simp [hl, hn]
      rw [hR]
      clear hR h0 h1 a5 b5 a7 b7 a2 b2
      have F0 : ((D1.length : Int) != (D0.length : Int)) = true := by rw [bne_iff_ne]; omega
      have F1 : ((D0.length : Int) != (D1.length : Int)) = true := by rw [bne_iff_ne]; omega
      generalize D0.length = n at *
      generalize D1.length = m at *
      go_enter Try.func42, Try.ntmps42
      go_wp2
      go_ret2
      exact ⟨rfl, Ext.refl _⟩
  · have hR : res D0 D1 = (0, false) := by unfold res; simp [hl]
    rw [hR]
    clear hR h0 h1 a5 b5 a7 b7 a2 b2
    generalize D0.length = n at *
    generalize D1.length = m at *
    go_enter Try.func42, Try.ntmps42
    go_wp2
    go_ret2
    exact ⟨rfl, Ext.refl _⟩

set_option maxRecDepth 100000 in
set_option maxHeartbeats 1000000 in
theorem l00Max_any (a b : Int) (w : World) : Calls Try.prog 80 #[.int .i64 a, .int .i64 b] w fun e w' => e = .returned (.int .i64 (max a b)) ∧ w = w' := by
  by_cases h : b < a
  · go_enter Try.func80, Try.ntmps80
    go_wp2
    go_ret
    exact ⟨ret_int (by omega), rfl⟩
  · go_enter Try.func80, Try.ntmps80
    go_wp2
    go_ret
    exact ⟨ret_int (by omega), rfl⟩

set_option maxRecDepth 100000 in
set_option maxHeartbeats 1000000 in
theorem spec_ok (cs0 : List Value) (D0 : shRequestS.T) (cs1 : List Value) (D1 : shAnswerS.T) (w : World) (h0 : Rep w shRequestS cs0 D0) (h1 : Rep w shAnswerS cs1 D1) :
    Calls Try.prog 40 #[ofCs shRequestS cs0, ofCs shAnswerS cs1] w (Got w (res D0 D1)) := by
  obtain ⟨p, c, css, rfl, a2, a3, a4, a5, a6, a7⟩ := rep_sl h0
  obtain ⟨q, d, dss, rfl, b2, b3, b4, b5, b6, b7⟩ := rep_sl h1
  have hm0 := Nat.le_trans a3 a4
  have hm1 := Nat.le_trans b3 b4
  unfold maxLen at hm0 hm1
  simp only [ofCs, Sh.agg, List.headD_cons, Bool.false_eq_true, if_false]
  by_cases hl : D0.length ≤ 20
  · by_cases hn : D1.length = D0.length
    · have hR : res D0 D1 = delFin (delGo D0 D1 0) := by unfold res; simp [hl, hn]
      rw [hR, hn]
      clear hR hm1 h0 h1
      generalize hG : delGo D0 D1 0 = G
      have HG := hid hG
      clear hG
      generalize hL : D0.length = n at *
      have HL := hid hL
      have HN := hid hn
      clear hL hn
      go_enter Try.func40, Try.ntmps40
      go_wp2
      go_loopw [6, 7] (fun mv iv wr => ∃ (i : Nat) (m : Int), i ≤ n ∧ iv = .int .i64 i ∧ mv = .int .i64 m ∧ 0 ≤ m ∧ m ≤ 200000 ∧ Hid (delGo (D0.drop i) (D1.drop i) m = G) ∧ Ext w wr) (fun _ iv _ => n - (intOf iv).toNat)
      case atStart => exact ⟨0, 0, by omega, rfl, rfl, by omega, by omega, by simpa [Hid] using HG.out, Ext.refl w⟩
      case round =>
        obtain ⟨i, m, hi, rfl, rfl, m0, m1, HI, he⟩ := hrel
        by_cases hlt : i < n
        · have hil : i < D0.length := by rw [HL.out]; exact hlt
          have hjl : i < D1.length := by rw [HN.out]; exact hlt
          obtain ⟨ci, hci, ri⟩ := a5.get i D0[i] (by simp)
          obtain ⟨di, hdi, si⟩ := b5.get i D1[i] (by simp)
          have hd0 : D0.drop i = D0[i] :: D0.drop (i + 1) := List.drop_eq_getElem_cons hil
          have hd1 : D1.drop i = D1[i] :: D1.drop (i + 1) := List.drop_eq_getElem_cons hjl
          have hst := HI.out
          rw [hd0, hd1] at hst
          clear hd0 hd1
          generalize D0[i] = Q at *
          generalize D1[i] = R at *
          obtain ⟨t, row, u⟩ := Q
          obtain ⟨t', bt, row', u'⟩ := R
          obtain ⟨_, _, rfl, rfl, _, _, rfl, hrow, rfl⟩ := ri
          obtain ⟨_, _, rfl, rfl, _, _, rfl, rfl, _, _, rfl, hrow', rfl⟩ := si
          obtain ⟨pr, cr, rfl, hlr⟩ := rep_val hrow
          obtain ⟨pr', cr', rfl, hlr'⟩ := rep_val hrow'
          simp only [List.cons_append, List.nil_append] at hci hdi
          simp only [delGo] at hst
          have hst := hid hst
          have hs1 := a2.some_of a6 (by decide) (show 0 < css.length by omega)
          have hs2 := b2.some_of b6 (by decide) (show 0 < dss.length by omega)
          have hp := a2.ext he
          have hq := b2.ext he
          clear a5 b5 hrow hrow' HI
          obtain ⟨F, hF⟩ : ∃ F : Option Tmp → World → Value → Prop, F = fun d _ u => u = .bool (match d with | some 29 => inB t 0 200000 | _ => inB t' t 200000) := ⟨_, rfl⟩
          have HF := hid hF
          clear hF
          cases h1 : inB t 0 200000
          · have H1 := hid h1
            have hst2 : G = none := by have := hst.out; rw [h1] at this; simpa using this.symm
            subst hst2
            clear h1
            go_wp2
            refine wp_region_xall (F := F) (by kernel_rfl) (by kernel_rfl) (by kernel_rfl) ?_
            intro wf hwf
            repeat (first
              | (refine x_skip rfl ?_; simp only [Act.put, ev_tmp, List.setIfInBounds_toArray, List.set_cons_succ, List.set_cons_zero, List.getD_cons_succ, List.getD_cons_zero])
              | (refine x_mv rfl rfl rfl ?_; simp only [Act.put, ev_tmp, List.setIfInBounds_toArray, List.set_cons_succ, List.set_cons_zero, List.getD_cons_succ, List.getD_cons_zero])
              | (refine x_as rfl rfl rfl ?_; simp only [Act.put, ev_tmp, List.setIfInBounds_toArray, List.set_cons_succ, List.set_cons_zero, List.getD_cons_succ, List.getD_cons_zero])
              | (refine x_ldField (j := i) (off := 0) rfl rfl (fun _ => rfl) rfl (fun _ _ => rfl) rfl (fun _ => rfl) (fun _ _ => rfl) fo_implRequest_0 rfl rfl rfl (hp.ext (Ext.drew _)) a6 a7 hlt hs1 hci rfl ?_; simp only [Act.put, ev_tmp, List.setIfInBounds_toArray, List.set_cons_succ, List.set_cons_zero, List.getD_cons_succ, List.getD_cons_zero])
              | (refine x_ldField (j := i) (off := 0) rfl rfl (fun _ => rfl) rfl (fun _ _ => rfl) rfl (fun _ => rfl) (fun _ _ => rfl) fo_implAnswer_0 rfl rfl rfl (hq.ext (Ext.drew _)) b6 (b7.trans HN.out) hlt hs2 hdi rfl ?_; simp only [Act.put, ev_tmp, List.setIfInBounds_toArray, List.set_cons_succ, List.set_cons_zero, List.getD_cons_succ, List.getD_cons_zero])
              | (refine x_callf (f := 79) (args := #[.int .i64 t, .int .i64 0, .int .i64 200000]) rfl rfl Try.func79 rfl (by kernel_rfl) ?_ ?_ ?_; (focus (simp [Act.eval]; done)); (focus (intro w1 hw1; exact (by rw [HF.out]; exact calls_same (l00In_any t 0 200000 w1)))); rintro u w3 e3 e4 hu; simp only [HF.out, H1.out] at hu; subst hu; simp only [Act.put, ev_tmp, List.setIfInBounds_toArray, List.set_cons_succ, List.set_cons_zero, List.getD_cons_succ, List.getD_cons_zero])
              | (refine x_callf (f := 79) (args := #[.int .i64 t', .int .i64 t, .int .i64 200000]) rfl rfl Try.func79 rfl (by kernel_rfl) ?_ ?_ ?_; (focus (simp [Act.eval]; done)); (focus (intro w1 hw1; exact (by rw [HF.out]; exact calls_same (l00In_any t' t 200000 w1)))); rintro u w3 e3 e4 hu; simp only [HF.out, H1.out] at hu; subst hu; simp only [Act.put, ev_tmp, List.setIfInBounds_toArray, List.set_cons_succ, List.set_cons_zero, List.getD_cons_succ, List.getD_cons_zero])
              | (refine x_run rfl fun K hK w1 hw1 => ?_; go_simp; refine hK _ ?_; clear hK K  hw1 w1))
            refine x_nil ?_
            go_wp2
            go_ret2
            exact ⟨rfl, (he.trans (Ext.drew _)).trans hwf⟩
          cases h2 : inB t' t 200000
          · have H1 := hid h1
            have H2 := hid h2
            have hst2 : G = none := by have := hst.out; rw [h1, h2] at this; simpa using this.symm
            subst hst2
            clear h1 h2
            go_wp2
            refine wp_region_xall (F := F) (by kernel_rfl) (by kernel_rfl) (by kernel_rfl) ?_
            intro wf hwf
            repeat (first
              | (refine x_skip rfl ?_; simp only [Act.put, ev_tmp, List.setIfInBounds_toArray, List.set_cons_succ, List.set_cons_zero, List.getD_cons_succ, List.getD_cons_zero])
              | (refine x_mv rfl rfl rfl ?_; simp only [Act.put, ev_tmp, List.setIfInBounds_toArray, List.set_cons_succ, List.set_cons_zero, List.getD_cons_succ, List.getD_cons_zero])
              | (refine x_as rfl rfl rfl ?_; simp only [Act.put, ev_tmp, List.setIfInBounds_toArray, List.set_cons_succ, List.set_cons_zero, List.getD_cons_succ, List.getD_cons_zero])
              | (refine x_ldField (j := i) (off := 0) rfl rfl (fun _ => rfl) rfl (fun _ _ => rfl) rfl (fun _ => rfl) (fun _ _ => rfl) fo_implRequest_0 rfl rfl rfl (hp.ext (Ext.drew _)) a6 a7 hlt hs1 hci rfl ?_; simp only [Act.put, ev_tmp, List.setIfInBounds_toArray, List.set_cons_succ, List.set_cons_zero, List.getD_cons_succ, List.getD_cons_zero])
              | (refine x_ldField (j := i) (off := 0) rfl rfl (fun _ => rfl) rfl (fun _ _ => rfl) rfl (fun _ => rfl) (fun _ _ => rfl) fo_implAnswer_0 rfl rfl rfl (hq.ext (Ext.drew _)) b6 (b7.trans HN.out) hlt hs2 hdi rfl ?_; simp only [Act.put, ev_tmp, List.setIfInBounds_toArray, List.set_cons_succ, List.set_cons_zero, List.getD_cons_succ, List.getD_cons_zero])
              | (refine x_callf (f := 79) (args := #[.int .i64 t, .int .i64 0, .int .i64 200000]) rfl rfl Try.func79 rfl (by kernel_rfl) ?_ ?_ ?_; (focus (simp [Act.eval]; done)); (focus (intro w1 hw1; exact (by rw [HF.out]; exact calls_same (l00In_any t 0 200000 w1)))); rintro u w3 e3 e4 hu; simp only [HF.out, H1.out] at hu; subst hu; simp only [Act.put, ev_tmp, List.setIfInBounds_toArray, List.set_cons_succ, List.set_cons_zero, List.getD_cons_succ, List.getD_cons_zero])
              | (refine x_callf (f := 79) (args := #[.int .i64 t', .int .i64 t, .int .i64 200000]) rfl rfl Try.func79 rfl (by kernel_rfl) ?_ ?_ ?_; (focus (simp [Act.eval]; done)); (focus (intro w1 hw1; exact (by rw [HF.out]; exact calls_same (l00In_any t' t 200000 w1)))); rintro u w3 e3 e4 hu; simp only [HF.out, H2.out] at hu; subst hu; simp only [Act.put, ev_tmp, List.setIfInBounds_toArray, List.set_cons_succ, List.set_cons_zero, List.getD_cons_succ, List.getD_cons_zero])
              | (refine x_run rfl fun K hK w1 hw1 => ?_; go_simp; refine hK _ ?_; clear hK K  hw1 w1))
            refine x_nil ?_
            go_wp2
            go_ret2
            exact ⟨rfl, (he.trans (Ext.drew _)).trans hwf⟩
          have H1 := hid h1
          have H2 := hid h2
          have hst2 : delGo (D0.drop (i + 1)) (D1.drop (i + 1)) (max m (t' - t)) = G := by have := hst.out; rw [h1, h2] at this; simpa using this
          have Hst := hid hst2
          rw [inB_true] at h1 h2
          clear hst2 hst
          go_wp2
          refine wp_region_xall (F := F) (by kernel_rfl) (by kernel_rfl) (by kernel_rfl) ?_
          intro wf hwf
          repeat (first
            | (refine x_skip rfl ?_; simp only [Act.put, ev_tmp, List.setIfInBounds_toArray, List.set_cons_succ, List.set_cons_zero, List.getD_cons_succ, List.getD_cons_zero])
            | (refine x_mv rfl rfl rfl ?_; simp only [Act.put, ev_tmp, List.setIfInBounds_toArray, List.set_cons_succ, List.set_cons_zero, List.getD_cons_succ, List.getD_cons_zero])
            | (refine x_as rfl rfl rfl ?_; simp only [Act.put, ev_tmp, List.setIfInBounds_toArray, List.set_cons_succ, List.set_cons_zero, List.getD_cons_succ, List.getD_cons_zero])
            | (refine x_ldField (j := i) (off := 0) rfl rfl (fun _ => rfl) rfl (fun _ _ => rfl) rfl (fun _ => rfl) (fun _ _ => rfl) fo_implRequest_0 rfl rfl rfl (hp.ext (Ext.drew _)) a6 a7 hlt hs1 hci rfl ?_; simp only [Act.put, ev_tmp, List.setIfInBounds_toArray, List.set_cons_succ, List.set_cons_zero, List.getD_cons_succ, List.getD_cons_zero])
            | (refine x_ldField (j := i) (off := 0) rfl rfl (fun _ => rfl) rfl (fun _ _ => rfl) rfl (fun _ => rfl) (fun _ _ => rfl) fo_implAnswer_0 rfl rfl rfl (hq.ext (Ext.drew _)) b6 (b7.trans HN.out) hlt hs2 hdi rfl ?_; simp only [Act.put, ev_tmp, List.setIfInBounds_toArray, List.set_cons_succ, List.set_cons_zero, List.getD_cons_succ, List.getD_cons_zero])
            | (refine x_callf (f := 79) (args := #[.int .i64 t, .int .i64 0, .int .i64 200000]) rfl rfl Try.func79 rfl (by kernel_rfl) ?_ ?_ ?_; (focus (simp [Act.eval]; done)); (focus (intro w1 hw1; exact (by rw [HF.out]; exact calls_same (l00In_any t 0 200000 w1)))); rintro u w3 e3 e4 hu; simp only [HF.out, H1.out] at hu; subst hu; simp only [Act.put, ev_tmp, List.setIfInBounds_toArray, List.set_cons_succ, List.set_cons_zero, List.getD_cons_succ, List.getD_cons_zero])
            | (refine x_callf (f := 79) (args := #[.int .i64 t', .int .i64 t, .int .i64 200000]) rfl rfl Try.func79 rfl (by kernel_rfl) ?_ ?_ ?_; (focus (simp [Act.eval]; done)); (focus (intro w1 hw1; exact (by rw [HF.out]; exact calls_same (l00In_any t' t 200000 w1)))); rintro u w3 e3 e4 hu; simp only [HF.out, H2.out] at hu; subst hu; simp only [Act.put, ev_tmp, List.setIfInBounds_toArray, List.set_cons_succ, List.set_cons_zero, List.getD_cons_succ, List.getD_cons_zero])
            | (refine x_run rfl fun K hK w1 hw1 => ?_; go_simp; refine hK _ ?_; clear hK K  hw1 w1))
          refine x_nil ?_
          
          have E1 : Ext wr wf := (Ext.drew _).trans hwf
          have hwr : IntKind.i64.wrap (t' - t) = t' - t := wrap_in _ (by omega) (by omega)
          go_wp2
          refine wp_region_xall (F := fun _ _ u => u = .int .i64 (max m (t' - t))) (by kernel_rfl) (by kernel_rfl) (by kernel_rfl) ?_
          intro wf hwf
          repeat (first
            | (refine x_skip rfl ?_; simp only [Act.put, ev_tmp, List.setIfInBounds_toArray, List.set_cons_succ, List.set_cons_zero, List.getD_cons_succ, List.getD_cons_zero])
            | (refine x_mv rfl rfl rfl ?_; simp only [Act.put, ev_tmp, List.setIfInBounds_toArray, List.set_cons_succ, List.set_cons_zero, List.getD_cons_succ, List.getD_cons_zero])
            | (refine x_as rfl rfl rfl ?_; simp only [Act.put, ev_tmp, List.setIfInBounds_toArray, List.set_cons_succ, List.set_cons_zero, List.getD_cons_succ, List.getD_cons_zero])
            | (refine x_ldField (j := i) (off := 0) rfl rfl (fun _ => rfl) rfl (fun _ _ => rfl) rfl (fun _ => rfl) (fun _ _ => rfl) fo_implRequest_0 rfl rfl rfl (hp.ext (E1.trans (Ext.drew _))) a6 a7 hlt hs1 hci rfl ?_; simp only [Act.put, ev_tmp, List.setIfInBounds_toArray, List.set_cons_succ, List.set_cons_zero, List.getD_cons_succ, List.getD_cons_zero])
            | (refine x_ldField (j := i) (off := 0) rfl rfl (fun _ => rfl) rfl (fun _ _ => rfl) rfl (fun _ => rfl) (fun _ _ => rfl) fo_implAnswer_0 rfl rfl rfl (hq.ext (E1.trans (Ext.drew _))) b6 (b7.trans HN.out) hlt hs2 hdi rfl ?_; simp only [Act.put, ev_tmp, List.setIfInBounds_toArray, List.set_cons_succ, List.set_cons_zero, List.getD_cons_succ, List.getD_cons_zero])
            | (refine x_callf (f := 80) (args := #[.int .i64 m, .int .i64 (t' - t)]) rfl rfl Try.func80 rfl (by kernel_rfl) ?_ ?_ ?_; (focus (simp [Act.eval]; done)); (focus (intro w1 hw1; exact (calls_same (l00Max_any m (t' - t) w1)))); rintro u w3 e3 e4 rfl; simp only [Act.put, ev_tmp, List.setIfInBounds_toArray, List.set_cons_succ, List.set_cons_zero, List.getD_cons_succ, List.getD_cons_zero])
            | (refine x_run rfl fun K hK w1 hw1 => ?_; go_simp; refine hK _ ?_; clear hK K  hw1 w1))
          refine x_nil ?_
          go_wp2
          go_roundw
          case rel => exact ⟨i + 1, max m (t' - t), by omega, by go_num, rfl, by omega, by omega, Hst.out, (he.trans E1).trans ((Ext.drew _).trans hwf)⟩
          case measure => simp [intOf]; omega
        · obtain rfl : i = n := by omega
          have hst := HI.out
          rw [List.drop_of_length_le (by rw [HL.out]; exact Nat.le_refl _)] at hst
          have hst2 : G = some m := by rw [← hst]; simp [delGo]
          subst hst2
          go_wp2
          go_ret2
          exact ⟨rfl, he⟩
    · have hR : res D0 D1 = (0, false) := by unfold res; simp [hl, hn]
      rw [hR]
      clear hR h0 h1 a5 b5 a7 b7 a2 b2
      have F0 : ((D1.length : Int) != (D0.length : Int)) = true := by rw [bne_iff_ne]; omega
      have F1 : ((D0.length : Int) != (D1.length : Int)) = true := by rw [bne_iff_ne]; omega
      generalize D0.length = n at *
      generalize D1.length = m at *
      go_enter Try.func40, Try.ntmps40
      go_wp2
      go_ret2
      exact ⟨rfl, Ext.refl _⟩
  · have hR : res D0 D1 = (0, false) := by unfold res; simp [hl]
    rw [hR]
    clear hR h0 h1 a5 b5 a7 b7 a2 b2
    generalize D0.length = n at *
    generalize D1.length = m at *
    go_enter Try.func40, Try.ntmps40
    go_wp2
    go_ret2
    exact ⟨rfl, Ext.refl _⟩
end Go.Proofs.Ytipojkfmbolehaa.lLongestDelay
