/- A part of the proofs: Mod2, Stg, InOut, RowT, Clo, Row, RowM, RowS, Tab, CpyM, Tp. -/
import Derived.Test.YtlimabbeaimdgaaGreatZ06Evalua
import Derived.Test.YtlimabbeaimdgaaGreatZ03Evalua
import Derived.Test.YtlimabbeaimdgaaGreatZ02Evalua
import Derived.Test.YtlimabbeaimdgaaGreatZ04Evalua
import Derived.Shelf.Abstract
set_option linter.unusedSimpArgs false
set_option linter.unusedVariables false
namespace Go.Proofs.YtlimabbeaimdgaaGreat
open Go.RowKit
set_option maxRecDepth 100000 in
set_option maxHeartbeats 4000000 in
theorem ValidModel_any (p : Option Addr) (n c : Nat) (l : List shLayer.T) (css : List (List Value)) (w : World) (hn : l.length = n) (hm : n ≤ maxLen)
 (a2 : Cs w p css.flatten) (a5 : All2 (Rep w shLayer) css l) (a6 : ∀ c ∈ css, c.length = shLayer.sz) (a7 : css.length = n) :
 Calls Tryz.prog 56 #[.agg #[.slice p n c]] w (RetB w (modB l)) := by
 unfold maxLen at hm
 unfold modB
 generalize hG : modGo none l = G
 have HG := hid hG
 have HL := hid hn
 clear hG
 go_enter Tryz.func56, Tryz.ntmps56
 go_wp2
 go_loopw [8] (fun iv wr => ∃ (i : Nat), i ≤ n ∧ iv = .int .i64 i ∧ Hid (modGo (prevL l i) (l.drop i) = G) ∧ Ext w wr ∧ wr.cell? ⟨w.heap.size, 0, none⟩ = some (.slice p n c) ∧ w.heap.size < wr.heap.size) (fun iv _ => n - (intOf iv).toNat)
 case atStart => exact ⟨0, by omega, rfl, by simpa [Hid, prevL] using HG.out, Ext.alloc _ _, by simp, by simp⟩
 case round =>
  obtain ⟨i, hi, rfl, HI, he, g0, hsz⟩ := hrel
  by_cases hlt : i < n
  · have hil : i < l.length := by rw [HL.out]; exact hlt
    obtain ⟨ci, hci, ri⟩ := a5.get i l[i] (by simp)
    obtain ⟨pw, cw, pb, cb, rfl, l1, l2⟩ := lay_vals ri
    have hst := HI.out
    rw [modGo_at hil] at hst
    have hs1 := a2.some_of a6 (by decide) (show 0 < css.length by omega)
    have hp := a2.ext he
    generalize hD : l[i] = d at *
    have HD := hid hD
    clear hD
    have C := hid (fun w1 => calls_retB (ValidLayer_any d.1 d.2.1 d.2.2.1 pw pb _ cw _ cb w1 l1 l2))
    have hne : w.heap.size ≠ wr.heap.size := by omega
    cases hb : layD d
    · have hG : G = false := by rw [← hst, hb]; rfl
      subst hG
      unfold layD at hb
      rw [hb] at C
      clear hb hst
      go_wp2_with ((with_reducible show wpList _ _ _ (Oper.mk _ (Op.indexAddr _ _ _) _ _ _ _ :: Oper.mk _ (Op.load _ _) _ _ _ _ :: _) _ _); refine wl_idxloadE (s := shLayer) (j := i) rfl rfl rfl rfl (fun _ => rfl) rfl rfl rfl hp a6 a7 hlt hs1 hci ?_; simp only [ofCs, Sh.agg, if_true])
      have E1 := (Ext.alloc wr (.cells #[.int .i64 d.1, .int .i64 d.2.1, .int .i64 d.2.2.1, .slice pw (List.length d.2.2.2.1) cw, .slice pb (List.length d.2.2.2.2.1) cb] 100)).trans (Ext.drew _)
      have gd := E1.cell g0
      have hpd := hp.ext E1
      obtain ⟨F, hF⟩ : ∃ F : Option Tmp → World → Value → Prop, F = fun _ _ u => u = .bool false := ⟨_, rfl⟩
      have HF := hid hF
      clear hF
      refine wp_region_xall (F := F) (by kernel_rfl) (by kernel_rfl) (by kernel_rfl) ?_
      intro wf hwf
      repeat (first
       | (refine x_skip rfl ?_; simp only [Act.put, ev_tmp, pu1, pu2, pu3, pu4, pu5])
       | (refine x_mv rfl rfl rfl ?_; simp only [Act.put, ev_tmp, pu1, pu2, pu3, pu4, pu5])
       | (refine x_as rfl rfl rfl ?_; simp only [Act.put, ev_tmp, pu1, pu2, pu3, pu4, pu5])
       | ((with_reducible show wpX _ _ _ _ _ _ (Oper.mk _ (Op.call _) _ _ _ _ :: _) _); refine x_callf (f := 82) (args := #[.agg #[.int .i64 d.1, .int .i64 d.2.1, .int .i64 d.2.2.1, .slice pw (List.length d.2.2.2.1) cw, .slice pb (List.length d.2.2.2.2.1) cb]]) rfl rfl Tryz.func82 rfl (by kernel_rfl) ?_ ?_ ?_; (focus (simp [Act.eval]; done)); (focus (intro w1 hw1; exact (by rw [HF.out]; exact C.out w1))); rintro u w3 e3 e4 hu; simp only [HF.out] at hu; subst hu; simp only [Act.put, ev_tmp, pu1, pu2, pu3, pu4, pu5])
       | (refine x_run rfl fun K hK w1 hw1 => ?_; have k0 := hw1.cellOf (b := wr.heap.size) (by simp); have k1 := hw1.cell (gd); go_simp; refine hK _ ?_; clear hK K k0 k1 hw1 w1))
      refine x_nil ?_
      go_wp2
      go_ret
      exact ⟨ret_bool (by simp), (he.trans E1).trans hwf⟩
    have hb2 := hb
    unfold layD at hb2
    rw [hb2] at C
    rw [hb, Bool.true_and] at hst
    clear hb hb2
    rcases Nat.eq_zero_or_pos i with h0 | h0
    · subst h0
      have hst2 : modGo (prevL l 1) (l.drop 1) = G := by rw [← hst]; simp [linkL, prevL]
      have Hst := hid hst2
      clear hst hst2
      go_wp2_with ((with_reducible show wpList _ _ _ (Oper.mk _ (Op.indexAddr _ _ _) _ _ _ _ :: Oper.mk _ (Op.load _ _) _ _ _ _ :: _) _ _); refine wl_idxloadE (s := shLayer) (j := 0) rfl rfl rfl rfl (fun _ => rfl) rfl rfl rfl hp a6 a7 hlt hs1 hci ?_; simp only [ofCs, Sh.agg, if_true])
      have E1 := (Ext.alloc wr (.cells #[.int .i64 d.1, .int .i64 d.2.1, .int .i64 d.2.2.1, .slice pw (List.length d.2.2.2.1) cw, .slice pb (List.length d.2.2.2.2.1) cb] 100)).trans (Ext.drew _)
      have gd := E1.cell g0
      have hpd := hp.ext E1
      obtain ⟨F, hF⟩ : ∃ F : Option Tmp → World → Value → Prop, F = fun _ _ u => u = .bool true := ⟨_, rfl⟩
      have HF := hid hF
      clear hF
      refine wp_region_xall (F := F) (by kernel_rfl) (by kernel_rfl) (by kernel_rfl) ?_
      intro wf hwf
      repeat (first
       | (refine x_skip rfl ?_; simp only [Act.put, ev_tmp, pu1, pu2, pu3, pu4, pu5])
       | (refine x_mv rfl rfl rfl ?_; simp only [Act.put, ev_tmp, pu1, pu2, pu3, pu4, pu5])
       | (refine x_as rfl rfl rfl ?_; simp only [Act.put, ev_tmp, pu1, pu2, pu3, pu4, pu5])
       | ((with_reducible show wpX _ _ _ _ _ _ (Oper.mk _ (Op.call _) _ _ _ _ :: _) _); refine x_callf (f := 82) (args := #[.agg #[.int .i64 d.1, .int .i64 d.2.1, .int .i64 d.2.2.1, .slice pw (List.length d.2.2.2.1) cw, .slice pb (List.length d.2.2.2.2.1) cb]]) rfl rfl Tryz.func82 rfl (by kernel_rfl) ?_ ?_ ?_; (focus (simp [Act.eval]; done)); (focus (intro w1 hw1; exact (by rw [HF.out]; exact C.out w1))); rintro u w3 e3 e4 hu; simp only [HF.out] at hu; subst hu; simp only [Act.put, ev_tmp, pu1, pu2, pu3, pu4, pu5])
       | (refine x_run rfl fun K hK w1 hw1 => ?_; have k0 := hw1.cellOf (b := wr.heap.size) (by simp); have k1 := hw1.cell (gd); go_simp; refine hK _ ?_; clear hK K k0 k1 hw1 w1))
      refine x_nil ?_
      go_wp2
      go_roundw
      case rel => exact ⟨1, by omega, by go_num, Hst.out, (he.trans E1).trans hwf, hwf.cell gd, by have := hwf.size; simp at this; omega⟩
      case measure => simp [intOf]; omega
    · obtain ⟨j, rfl⟩ : ∃ j, i = j + 1 := ⟨i - 1, by omega⟩
      obtain ⟨cj, hcj, rj⟩ := a5.get j l[j] (by simp)
      obtain ⟨qw, dw, qb, db, rfl, _, _⟩ := lay_vals rj
      have hlk : linkL (prevL l (j + 1)) d.2.1 = decide (d.2.1 = layO l[j]) := by simp [prevL, linkL, show j < l.length by omega]
      rw [hlk] at hst
      have hA : IntKind.i64.wrap (((j + 1 : Nat) : Int) - 1) = (j : Int) := by rw [show ((j + 1 : Nat) : Int) - 1 = (j : Int) by omega]; exact wrap_in _ (by omega) (by omega)
      have hB : IntKind.i64.wrap ((j : Int) + 1 - 1) = (j : Int) := by rw [show (j : Int) + 1 - 1 = (j : Int) by omega]; exact wrap_in _ (by omega) (by omega)
      have hC : IntKind.i64.wrap (j : Int) = (j : Int) := wrap_in _ (by omega) (by omega)
      clear hlk
      by_cases hq : d.2.1 = layO l[j]
      · have hst2 : modGo (prevL l (j + 1 + 1)) (l.drop (j + 1 + 1)) = G := by rw [← hst]; simp [hq]
        have Hst := hid hst2
        have Q := bne_f hq
        unfold layO at Q
        clear hst hst2 hq
        go_wp2_with ((with_reducible show wpList _ _ _ (Oper.mk _ (Op.indexAddr _ _ _) _ _ _ _ :: Oper.mk _ (Op.load _ _) _ _ _ _ :: _) _ _); refine wl_idxloadE (s := shLayer) (j := j + 1) rfl rfl rfl rfl (fun _ => rfl) rfl rfl rfl hp a6 a7 hlt hs1 hci ?_; simp only [ofCs, Sh.agg, if_true])
        have E1 := (Ext.alloc wr (.cells #[.int .i64 d.1, .int .i64 d.2.1, .int .i64 d.2.2.1, .slice pw (List.length d.2.2.2.1) cw, .slice pb (List.length d.2.2.2.2.1) cb] 100)).trans (Ext.drew _)
        have gd := E1.cell g0
        have hpd := hp.ext E1
        obtain ⟨F, hF⟩ : ∃ F : Option Tmp → World → Value → Prop, F = fun _ _ u => u = .bool true := ⟨_, rfl⟩
        have HF := hid hF
        clear hF
        refine wp_region_xall (F := F) (by kernel_rfl) (by kernel_rfl) (by kernel_rfl) ?_
        intro wf hwf
        repeat (first
         | (refine x_skip rfl ?_; simp only [Act.put, ev_tmp, pu1, pu2, pu3, pu4, pu5])
         | (refine x_mv rfl rfl rfl ?_; simp only [Act.put, ev_tmp, pu1, pu2, pu3, pu4, pu5])
         | (refine x_as rfl rfl rfl ?_; simp only [Act.put, ev_tmp, pu1, pu2, pu3, pu4, pu5])
         | ((with_reducible show wpX _ _ _ _ _ _ (Oper.mk _ (Op.indexAddr _ _ _) _ _ _ _ :: Oper.mk _ (Op.fieldAddr _ _ _) _ _ _ _ :: Oper.mk _ (Op.load _ _) _ _ _ _ :: _) _); refine x_ldField (f := 2) (j := j) (off := 2) rfl rfl (fun _ => rfl) rfl (fun _ _ => rfl) rfl (fun _ => rfl) (fun _ _ => rfl) fo_implLayer_2 rfl rfl (by omega) hpd a6 a7 (by omega) hs1 hcj rfl ?_; simp only [Act.put, ev_tmp, pu1, pu2, pu3, pu4, pu5])
         | ((with_reducible show wpX _ _ _ _ _ _ (Oper.mk _ (Op.call _) _ _ _ _ :: _) _); refine x_callf (f := 82) (args := #[.agg #[.int .i64 d.1, .int .i64 d.2.1, .int .i64 d.2.2.1, .slice pw (List.length d.2.2.2.1) cw, .slice pb (List.length d.2.2.2.2.1) cb]]) rfl rfl Tryz.func82 rfl (by kernel_rfl) ?_ ?_ ?_; (focus (simp [Act.eval]; done)); (focus (intro w1 hw1; exact (by rw [HF.out]; exact C.out w1))); rintro u w3 e3 e4 hu; simp only [HF.out] at hu; subst hu; simp only [Act.put, ev_tmp, pu1, pu2, pu3, pu4, pu5])
         | (refine x_run rfl fun K hK w1 hw1 => ?_; have k0 := hw1.cellOf (b := wr.heap.size) (by simp); have k1 := hw1.cell (gd); go_simp; refine hK _ ?_; clear hK K k0 k1 hw1 w1))
        refine x_nil ?_
        go_wp2
        go_roundw
        case rel => exact ⟨j + 1 + 1, by omega, by go_num, Hst.out, (he.trans E1).trans hwf, hwf.cell gd, by have := hwf.size; simp at this; omega⟩
        case measure => simp [intOf]; omega
      · have hG : G = false := by rw [← hst]; simp [hq]
        subst hG
        have Q := bne_t hq
        unfold layO at Q
        clear hst hq
        go_wp2_with ((with_reducible show wpList _ _ _ (Oper.mk _ (Op.indexAddr _ _ _) _ _ _ _ :: Oper.mk _ (Op.load _ _) _ _ _ _ :: _) _ _); refine wl_idxloadE (s := shLayer) (j := j + 1) rfl rfl rfl rfl (fun _ => rfl) rfl rfl rfl hp a6 a7 hlt hs1 hci ?_; simp only [ofCs, Sh.agg, if_true])
        have E1 := (Ext.alloc wr (.cells #[.int .i64 d.1, .int .i64 d.2.1, .int .i64 d.2.2.1, .slice pw (List.length d.2.2.2.1) cw, .slice pb (List.length d.2.2.2.2.1) cb] 100)).trans (Ext.drew _)
        have gd := E1.cell g0
        have hpd := hp.ext E1
        obtain ⟨F, hF⟩ : ∃ F : Option Tmp → World → Value → Prop, F = fun _ _ u => u = .bool true := ⟨_, rfl⟩
        have HF := hid hF
        clear hF
        refine wp_region_xall (F := F) (by kernel_rfl) (by kernel_rfl) (by kernel_rfl) ?_
        intro wf hwf
        repeat (first
         | (refine x_skip rfl ?_; simp only [Act.put, ev_tmp, pu1, pu2, pu3, pu4, pu5])
         | (refine x_mv rfl rfl rfl ?_; simp only [Act.put, ev_tmp, pu1, pu2, pu3, pu4, pu5])
         | (refine x_as rfl rfl rfl ?_; simp only [Act.put, ev_tmp, pu1, pu2, pu3, pu4, pu5])
         | ((with_reducible show wpX _ _ _ _ _ _ (Oper.mk _ (Op.indexAddr _ _ _) _ _ _ _ :: Oper.mk _ (Op.fieldAddr _ _ _) _ _ _ _ :: Oper.mk _ (Op.load _ _) _ _ _ _ :: _) _); refine x_ldField (f := 2) (j := j) (off := 2) rfl rfl (fun _ => rfl) rfl (fun _ _ => rfl) rfl (fun _ => rfl) (fun _ _ => rfl) fo_implLayer_2 rfl rfl (by omega) hpd a6 a7 (by omega) hs1 hcj rfl ?_; simp only [Act.put, ev_tmp, pu1, pu2, pu3, pu4, pu5])
         | ((with_reducible show wpX _ _ _ _ _ _ (Oper.mk _ (Op.call _) _ _ _ _ :: _) _); refine x_callf (f := 82) (args := #[.agg #[.int .i64 d.1, .int .i64 d.2.1, .int .i64 d.2.2.1, .slice pw (List.length d.2.2.2.1) cw, .slice pb (List.length d.2.2.2.2.1) cb]]) rfl rfl Tryz.func82 rfl (by kernel_rfl) ?_ ?_ ?_; (focus (simp [Act.eval]; done)); (focus (intro w1 hw1; exact (by rw [HF.out]; exact C.out w1))); rintro u w3 e3 e4 hu; simp only [HF.out] at hu; subst hu; simp only [Act.put, ev_tmp, pu1, pu2, pu3, pu4, pu5])
         | (refine x_run rfl fun K hK w1 hw1 => ?_; have k0 := hw1.cellOf (b := wr.heap.size) (by simp); have k1 := hw1.cell (gd); go_simp; refine hK _ ?_; clear hK K k0 k1 hw1 w1))
        refine x_nil ?_
        go_wp2
        go_ret
        exact ⟨ret_bool (by simp), (he.trans E1).trans hwf⟩
  · obtain rfl : i = n := by omega
    have hst := HI.out
    rw [List.drop_of_length_le (by rw [HL.out]; exact Nat.le_refl _)] at hst
    have hst2 : G = true := by rw [← hst]; simp [modGo]
    subst hst2
    have hL := HL.out
    by_cases h1 : 1 ≤ i
    · by_cases h6 : i ≤ 6
      · have h6' : (i : Int) ≤ 6 := by omega
        go_wp2
        go_ret
        exact ⟨ret_bool (by first | rfl | (rw [hL]; simp [h1, h6, h6'])), he⟩
      · have h6' : ¬ (i : Int) ≤ 6 := by omega
        go_wp2
        go_ret
        exact ⟨ret_bool (by first | rfl | (rw [hL]; simp [h1, h6, h6'])), he⟩
    · go_wp2
      go_ret
      exact ⟨ret_bool (by first | rfl | (rw [hL]; simp [h1])), he⟩
def inL (l : List shLayer.T) (i : Nat) : Int := (l[i]?.map fun d => d.2.1).getD 0
def outL (l : List shLayer.T) : Int := (l[l.length - 1]?.map fun d => d.2.2.1).getD 0
theorem modGo_all {l : List shLayer.T} : ∀ {i : Nat} {p : Option Int}, modGo p l = true → ∀ (h : i < l.length), layD l[i] = true ∧ ∀ (h' : i + 1 < l.length), l[i + 1].2.1 = l[i].2.2.1 := by
 induction l with
 | nil => intro i p _ h; simp at h
 | cons d t ih =>
   intro i p hm h
   simp only [modGo, Bool.and_eq_true] at hm
   obtain ⟨h1, h2, h3⟩ := hm
   cases i with
   | zero =>
     refine ⟨h1, fun h' => ?_⟩
     cases t with
     | nil => simp at h'
     | cons d2 t2 =>
       simp only [modGo, Bool.and_eq_true, linkL, decide_eq_true_eq] at h3
       exact h3.2.1
   | succ i =>
     have := ih (i := i) h3 (by simpa using h)
     simpa using this
structure ModOk (l : List shLayer.T) : Prop where
 pos : 1 ≤ l.length
 few : l.length ≤ 6
 lay : ∀ i (h : i < l.length), layD l[i] = true
 link : ∀ i (h : i + 1 < l.length), l[i + 1].2.1 = (l[i]'(by omega)).2.2.1
theorem modOk {l : List shLayer.T} (h : modB l = true) : ModOk l := by
 unfold modB at h
 simp only [Bool.and_eq_true, decide_eq_true_eq] at h
 obtain ⟨h1, h2, h3⟩ := h
 exact ⟨h1, h2, fun i hi => (modGo_all h3 hi).1, fun i hi => (modGo_all h3 (by omega)).2 hi⟩
set_option maxRecDepth 100000 in
set_option maxHeartbeats 1000000 in
theorem l02Own_any (p : Option Addr) (n c : Nat) (us : List Value) (xs : List Nat) (w : World) (hx : xs.length = n) (hn : n ≤ 1073741824) (hc : n ≤ c) (hp : Cs w p us) (hf : F32s us xs) : Calls Tryz.prog 77 #[.slice p n c] w (RetFl w xs) := by
 have hstart : (w.alloc (.cells #[] 48)).ownsRow w.heap.size 48 1 (.slice (some ⟨w.heap.size, 0, none⟩) 0 0) 0 [] := World.ownsRow_made w #[] 0 (Nat.le_refl _) (by decide) rfl
 have e0 := Ext.alloc w (.cells #[] 48)
 have o1 := hid hf.one
 have u1 := hf.1
 have U1 := hid u1
 have HX := hid hx
 clear hx u1
 go_enter Tryz.func77, Tryz.ntmps77
 go_wp2_with ((with_reducible show wpList _ _ _ (Oper.mk _ (Op.call _) _ _ _ _ :: _) _ _); refine wl_appz rfl rfl rfl rfl hstart (hp.ext e0) (by rw [U1.out, HX.out, Nat.mul_one]) hc o1.out (by unfold maxLen; omega) (by omega) (by simp) ?_; intro v1 w1 own1 g1)
 go_ret
 rw [Nat.zero_add, List.nil_append] at own1
 exact retFl_of HX.out own1 hf rfl (e0.grown g1 (fun k hk => own_le hstart k hk))
theorem Lays.at {w : World} {p : Option Addr} {n : Nat} {css : List (List Value)} {l : List shLayer.T} (h : Lays w p n css l) {i : Nat} (hi : i < n) : ∃ ci, css[i]? = some ci ∧ ci[1]? = some (.int .i64 (inL l i)) ∧ ci[2]? = some (.int .i64 ((l[i]?.map fun d => d.2.2.1).getD 0)) ∧ p.isSome = true := by
 have hl := h.len
 obtain ⟨ci, hci, ri⟩ := h.all.get i (l[i]'(by omega)) (by simp)
 have hs := h.cs.some_of h.size (by decide) (show i < css.length by rw [h.cnt]; exact hi)
 obtain ⟨pw, cw, pb, cb, rfl, _, _⟩ := lay_vals ri
 exact ⟨_, hci, by unfold inL; simp [show i < l.length by omega], by simp [show i < l.length by omega], hs⟩
set_option maxRecDepth 100000 in
set_option maxHeartbeats 1000000 in
theorem in_any (p : Option Addr) (n c : Nat) (css : List (List Value)) (l : List shLayer.T) (w : World) (L : Lays w p n css l) (h1 : 1 ≤ n) : Calls Tryz.prog 58 #[.agg #[.slice p n c]] w fun e w' => e = .returned (.int .i64 (inL l 0)) ∧ Ext w w' := by
 obtain ⟨ci, k1, k2, _, k4⟩ := L.at (i := 0) (by omega)
 have l1 := L.cs.ext (Ext.alloc w (.cells #[.slice p n c] 35)); have l3 := L.size; have l5 := hid L.cnt
 generalize inL l 0 = v at *
 clear L
 have K1 := hid k1
 have K2 := hid k2
 clear k1 k2
 go_enter Tryz.func58, Tryz.ntmps58
 go_wp2_with ((with_reducible show wpList _ _ _ (Oper.mk _ (Op.indexAddr _ _ _) _ _ _ _ :: Oper.mk _ (Op.fieldAddr _ _ _) _ _ _ _ :: _) _ _); refine wl_ldField (f := 1) (off := 1) (j := 0) rfl rfl rfl rfl rfl rfl (fun _ => rfl) (fun _ _ => rfl) fo_implLayer_1 rfl rfl rfl l1 l3 l5.out (by omega) k4 K1.out K2.out ?_)
 go_ret
 exact ⟨rfl, Ext.alloc _ _⟩
theorem outL_eq {l : List shLayer.T} {n : Nat} (h : l.length = n) : ((l[n - 1]?.map fun d => d.2.2.1).getD 0) = outL l := by subst h; rfl
set_option maxRecDepth 100000 in
set_option maxHeartbeats 1000000 in
theorem out_any (p : Option Addr) (n c : Nat) (css : List (List Value)) (l : List shLayer.T) (w : World) (L : Lays w p n css l) (h1 : 1 ≤ n) : Calls Tryz.prog 59 #[.agg #[.slice p n c]] w fun e w' => e = .returned (.int .i64 (outL l)) ∧ Ext w w' := by
 obtain ⟨ci, k1, _, k2, k4⟩ := L.at (i := n - 1) (by omega)
 rw [outL_eq L.len] at k2
 have hn := L.le
 unfold maxLen at hn
 have l1 := L.cs.ext (Ext.alloc w (.cells #[.slice p n c] 35)); have l3 := L.size; have l5 := hid L.cnt
 generalize outL l = v at *
 clear L
 have K1 := hid k1
 have K2 := hid k2
 clear k1 k2
 go_enter Tryz.func59, Tryz.ntmps59
 go_wp2_with ((with_reducible show wpList _ _ _ (Oper.mk _ (Op.indexAddr _ _ _) _ _ _ _ :: Oper.mk _ (Op.fieldAddr _ _ _) _ _ _ _ :: _) _ _); refine wl_ldField (f := 2) (off := 2) (j := n - 1) rfl rfl rfl rfl rfl rfl (fun _ => rfl) (fun _ _ => rfl) fo_implLayer_2 rfl rfl (by omega) l1 l3 l5.out (by omega) k4 K1.out K2.out ?_)
 go_ret
 exact ⟨rfl, Ext.alloc _ _⟩
def rowT (xs : List Nat) (c i : Nat) : List Nat := (xs.take ((i + 1) * c)).drop (i * c)
theorem row_le {r c i : Nat} (hi : i < r) : (i + 1) * c ≤ r * c := Nat.mul_le_mul_right c hi
theorem rowT_len {xs : List Nat} {c i r : Nat} (h : xs.length = r * c) (hi : i < r) : (rowT xs c i).length = c := by
 unfold rowT
 rw [List.length_drop, List.length_take, h, Nat.min_eq_left (row_le hi), Nat.add_mul]
 omega
theorem cell_le {R C i : Nat} (hi : i < R) (hR : R ≤ 16) (hC : C ≤ 16) : (i + 1) * C ≤ R * C ∧ R * C ≤ 256 ∧ i * C ≤ (i + 1) * C ∧ (i + 1) * C - i * C = C := by
 have h1 := row_le (c := C) hi
 have h2 := Nat.mul_le_mul hR hC
 rw [Nat.add_mul] at *
 omega
theorem own_ten {w : World} {r c : Int} {q : Option Addr} {n cp : Nat} {xs : List Nat} {bs : List Nat} (e : xs.length = n) (h : Own w (.sl .flt) [.slice q n cp] xs bs) : Own w shTensor [.int .i64 r, .int .i64 c, .slice q n cp] (r, c, xs, ()) bs := by
 subst e
 exact ⟨[.int .i64 r], [.int .i64 c, .slice q xs.length cp], [], bs, rfl, ⟨rfl, rfl⟩, ⟨[.int .i64 c], [.slice q xs.length cp], [], bs, rfl, ⟨rfl, rfl⟩, ⟨[.slice q xs.length cp], [], bs, [], rfl, h, ⟨rfl, rfl⟩, by simp⟩, rfl⟩, rfl⟩
theorem ten_vals {w : World} {cs : List Value} {d : shTensor.T} (h : Rep w shTensor cs d) : ∃ p c us, cs = [.int .i64 d.1, .int .i64 d.2.1, .slice p d.2.2.1.length c] ∧ Cs w p us ∧ F32s us d.2.2.1 ∧ (d.2.2.1 : List Nat).length ≤ c ∧ c ≤ maxLen := by
 obtain ⟨d1, d2, d3, _⟩ := d
 obtain ⟨_, _, rfl, rfl, _, _, rfl, rfl, _, _, rfl, h3, rfl⟩ := h
 obtain ⟨p, c, us, rfl, hp, hf, hc, hn⟩ := rep_flts.1 h3
 exact ⟨p, c, us, rfl, hp, hf, hc, hn⟩
theorem retFl_nil {w w' : World} {e : Ending} (he : e = .returned (.slice none 0 0)) (hx : Ext w w') : RetFl w [] e w' :=
 ⟨none, 0, [], he, ⟨rfl, .inl ⟨rfl, rfl⟩⟩, F32s.nil, hx⟩
set_option maxRecDepth 100000 in
set_option maxHeartbeats 1000000 in
theorem cloneF_any (p : Option Addr) (n c : Nat) (us : List Value) (xs : List Nat) (w : World) (hx : xs.length = n) (hn : n ≤ 1073741824) (hc : n ≤ c) (hp : Cs w p us) (hf : F32s us xs) : Calls Tryz.prog 71 #[.slice p n c] w (RetFl w xs) := by
 have o1 := hid hf.one
 have u1 := hf.1
 cases p with
 | none =>
   have h0 : us = [] := Classical.byContradiction fun h => by have := hp.isS h; simp at this
   subst h0
   obtain rfl : xs = [] := List.eq_nil_of_length_eq_zero (by simpa using u1.symm)
   obtain rfl : n = 0 := by simpa using hx.symm
   clear hp hf o1 u1
   go_enter Tryz.func71, Tryz.ntmps71
   go_wp2
   go_ret
   exact retFl_nil rfl (Ext.refl _)
 | some ad =>
   have hstart : (w.alloc (.cells #[] 48)).ownsRow w.heap.size 48 1 (.slice (some ⟨w.heap.size, 0, none⟩) 0 0) 0 [] := World.ownsRow_made w #[] 0 (Nat.le_refl _) (by decide) rfl
   have e0 := Ext.alloc w (.cells #[] 48)
   have HX := hid hx
   have U1 := hid u1
   clear hx u1
   go_enter Tryz.func71, Tryz.ntmps71
   go_wp2_with ((with_reducible show wpList _ _ _ (Oper.mk _ (Op.call _) _ _ _ _ :: _) _ _); refine wl_appz rfl rfl rfl rfl hstart (hp.ext e0) (by rw [U1.out, HX.out, Nat.mul_one]) hc o1.out (by unfold maxLen; omega) (by omega) (by simp) ?_; intro v1 w1 own1 g1)
   go_ret
   rw [Nat.zero_add, List.nil_append] at own1
   exact retFl_of HX.out own1 hf rfl (e0.grown g1 (fun k hk => own_le hstart k hk))
set_option maxRecDepth 100000 in
set_option maxHeartbeats 1000000 in
theorem row_any (R C i n cp : Nat) (p : Option Addr) (w : World) (hi : i < R) (hR : R ≤ 16) (hC : C ≤ 16) (hn : n = R * C) (hcp : n ≤ cp) :
 Calls Tryz.prog 124 #[.agg #[.int .i64 R, .int .i64 C, .slice p n cp], .int .i64 i] w fun e w' => e = .returned (.slice (subp p 1 (i * C) cp) C (cp - i * C)) ∧ Ext w w' := by
 obtain ⟨h1, h2, h3, h4⟩ := cell_le (C := C) hi hR hC
 have q1 : IntKind.i64.wrap ((i : Int) * C) = ((i * C : Nat) : Int) := by rw [← Int.natCast_mul]; exact wrap_in _ (by omega) (by omega)
 have q2 : IntKind.i64.wrap ((i : Int) + 1) = ((i + 1 : Nat) : Int) := by rw [show (i : Int) + 1 = ((i + 1 : Nat) : Int) by omega]; exact wrap_in _ (by omega) (by omega)
 have q3 : IntKind.i64.wrap (((i : Int) + 1) * C) = (((i + 1) * C : Nat) : Int) := by rw [show ((i : Int) + 1) * C = (((i + 1) * C : Nat) : Int) by push_cast; rfl]; exact wrap_in _ (by omega) (by omega)
 generalize hA : i * C = A at *
 generalize hB : (i + 1) * C = B at *
 have h5 : A ≤ B := h3
 have h6 : B ≤ cp := by omega
 have H4 := hid h4
 clear hA hB
 go_enter Tryz.func124, Tryz.ntmps124
 go_wp2_with (refine wl_slice (l := A) (u := B) rfl rfl rfl rfl rfl (by first | rfl | exact q1) (by first | rfl | exact q3) h5 h6 ?_)
 go_ret
 exact ⟨rfl, Ext.alloc _ _⟩
def IsFl (B : Nat) (xs : List Nat) (w : World) (u : Value) : Prop := ∃ q c vs, u = .slice q xs.length c ∧ w.ownsRow B 48 1 (.slice q xs.length c) xs.length vs ∧ F32s vs xs
theorem IsFl.base {B B' : Nat} {xs : List Nat} {w : World} {u : Value} (h : IsFl B xs w u) (hB : B' ≤ B) : IsFl B' xs w u := by
 obtain ⟨q, c, vs, h1, h2, h3⟩ := h
 exact ⟨q, c, vs, h1, own_base h2 hB, h3⟩
theorem RetFl.is {w w' : World} {xs : List Nat} {e : Ending} (h : RetFl w xs e w') : ∃ u, e = .returned u ∧ Ext w w' ∧ IsFl w.heap.size xs w' u := by
 obtain ⟨q, c, vs, he, h2, h3, hx⟩ := h
 exact ⟨_, he, hx, q, c, vs, rfl, h2, h3⟩
theorem calls_fl {P : Program} {f : Nat} {xs : Array Value} {wB w1 : World} {ys : List Nat} (hB : Ext wB w1) (h : Calls P f xs w1 (RetFl w1 ys)) : Calls P f xs w1 fun e w3 => ∃ u, e = .returned u ∧ Ext w1 w3 ∧ IsFl wB.heap.size ys w3 u :=
 h.mono fun e w3 h => by
  obtain ⟨u, h1, h2, h3⟩ := h.is
  exact ⟨u, h1, h2, h3.base hB.size⟩
theorem row_cs {w : World} {p : Option Addr} {us : List Value} {C i cp : Nat} (hp : Cs w p us) (h : (i + 1) * C ≤ cp) : Cs w (subp p 1 (i * C) cp) ((us.take ((i + 1) * C)).drop (i * C)) := by
 have := hp.sub (s := 1) (l := i * C) (hi := (i + 1) * C) (c := cp) (by rw [Nat.add_mul]; omega) h
 simpa only [Nat.mul_one] using this
theorem cell_of_heap {w : World} {b : Nat} {Z : Array Value} {t : TypeId} {j : Nat} {v : Value} (h : w.heap[b]? = some (.cells Z t)) (hv : Z[j]? = some v) : w.cell? ⟨b, j, none⟩ = some v := by simp [World.cell?, h, hv]
theorem frozen_of_heap {w : World} {b : Nat} {Z : Array Value} {t : TypeId} {j : Nat} (h : w.heap[b]? = some (.cells Z t)) : w.frozen? ⟨b, j, none⟩ = false := by simp [World.frozen?, h]
theorem box2 {w W0 : World} {A B : Array Value} {ta tb : TypeId} (h : W0 = (w.alloc (.cells A ta)).alloc (.cells B tb)) : Ext w W0 ∧ W0.heap.size = w.heap.size + 2 ∧ W0.heap[w.heap.size]? = some (.cells A ta) ∧ W0.heap[w.heap.size + 1]? = some (.cells B tb) := by
 subst h
 have e1 := Ext.alloc w (.cells A ta)
 have e2 := Ext.alloc (w.alloc (.cells A ta)) (.cells B tb)
 refine ⟨e1.trans e2, by simp, ?_, ?_⟩
 · rw [e2.block _ (by simp)]; exact heap_alloc_new w _
 · have := heap_alloc_new (w.alloc (.cells A ta)) (.cells B tb)
   simpa using this
theorem box3 {w W0 : World} {A B C : Array Value} {ta tb tc : TypeId} (h : W0 = ((w.alloc (.cells A ta)).alloc (.cells B tb)).alloc (.cells C tc)) : Ext w W0 ∧ W0.heap.size = w.heap.size + 3 ∧ W0.heap[w.heap.size]? = some (.cells A ta) ∧ W0.heap[w.heap.size + 1]? = some (.cells B tb) ∧ W0.heap[w.heap.size + 2]? = some (.cells C tc) := by
 subst h
 obtain ⟨h1, h2, h3, h4⟩ := box2 (w := w) (A := A) (B := B) (ta := ta) (tb := tb) rfl
 have e3 := Ext.alloc ((w.alloc (.cells A ta)).alloc (.cells B tb)) (.cells C tc)
 refine ⟨h1.trans e3, by simp, ?_, ?_, ?_⟩
 · rw [e3.block _ (by simp; omega)]; exact h3
 · rw [e3.block _ (by simp)]; exact h4
 · have := heap_alloc_new ((w.alloc (.cells A ta)).alloc (.cells B tb)) (.cells C tc)
   simpa using this
section
variable {P : Program} {w wf : World} {ops : Array Oper} {rest : List Oper} {o : Oper} {a : Act} {Q : Act → Prop} {F : Option Tmp → World → World → Value → Prop}
theorem x_alloc {t : TypeId} {Z : Array Value} (hw : Region.wanted o (yielded ops a.tmps) = true) (hr : ∀ w1, (execOp a.eval o).run P w1 = .ok (.value (.pointer (some ⟨w1.heap.size, 0, none⟩))) (w1.alloc (.cells Z t)))
 (h : ∀ b, w.heap.size ≤ b → b < wf.heap.size → wf.heap[b]? = some (.cells Z t) → wpX P ops F w wf Q rest (a.put o.dst (.pointer (some ⟨b, 0, none⟩)))) : wpX P ops F w wf Q (o :: rest) a :=
 x_made (V := fun wf u => ∃ b, u = .pointer (some ⟨b, 0, none⟩) ∧ w.heap.size ≤ b ∧ b < wf.heap.size ∧ wf.heap[b]? = some (.cells Z t)) hw
  (fun w1 e1 => ⟨_, _, hr w1, Ext.alloc _ _, fun wf hf => ⟨w1.heap.size, rfl, e1.size, Nat.lt_of_lt_of_le (by simp) hf.size, by rw [hf.block _ (by simp)]; exact heap_alloc_new w1 _⟩⟩)
  (fun u ⟨b, h1, h2, h3, h4⟩ => by subst h1; exact h b h2 h3 h4)
end
theorem own_chgB {S : Nat → Prop} {w w' : World} {B e s n : Nat} {v : Value} {vs : List Value} (h : w.ownsRow B e s v n vs) (k : Chg S w w') (hS : ∀ b, S b → b < B) : w'.ownsRow B e s v n vs := by
 obtain ⟨h1, h2⟩ := h
 refine ⟨h1, ?_⟩
 rcases h2 with h2 | ⟨g, cap, cur, hv, hg, hh, r⟩
 · exact .inl h2
 · have hlt : g < w.heap.size := by
    rcases Nat.lt_or_ge g w.heap.size with h' | h'
    · exact h'
    · simp [Array.getElem?_eq_none h'] at hh
   exact .inr ⟨g, cap, cur, hv, hg, by rw [k.block g hlt (fun hs => by have := hS g hs; omega)]; exact hh, r⟩
theorem own_slice {w : World} {B e s n : Nat} {v : Value} {vs : List Value} (h : w.ownsRow B e s v n vs) : ∃ q c, v = .slice q n c := by
 rcases h.2 with ⟨h1, h2⟩ | ⟨g, cap, cur, h1, _⟩
 · exact ⟨none, 0, by rw [h1, h2]⟩
 · exact ⟨_, _, h1⟩
def RetTen (w : World) (r c : Int) (xs : List Nat) (e : Ending) (w' : World) : Prop :=
 ∃ q cp vs, e = .returned (.agg #[.int .i64 r, .int .i64 c, .slice q xs.length cp]) ∧ w'.ownsRow w.heap.size 48 1 (.slice q xs.length cp) xs.length vs ∧ F32s vs xs ∧ Ext w w'
theorem RetTen.of {w w' : World} {r c : Int} {xs : List Nat} {v : Value} {vs : List Value} {n : Nat} {e : Ending} (hl : xs.length = n) (h : w'.ownsRow w.heap.size 48 1 v n vs) (hf : F32s vs xs) (he : e = .returned (.agg #[.int .i64 r, .int .i64 c, v])) (hx : Ext w w') : RetTen w r c xs e w' := by
 obtain ⟨q, cp, us, h1, h2, h3, h4⟩ := retFl_of hl h hf (e := .returned v) rfl hx
 simp only [Ending.returned.injEq] at h1
 subst h1
 exact ⟨q, cp, us, he, h2, h3, h4⟩
section
variable {P : Program} {w wf : World} {ops : Array Oper} {rest : List Oper} {o : Oper} {a : Act} {Q : Act → Prop} {F : Option Tmp → World → World → Value → Prop}
theorem x_empty {te : TypeId} {s : Nat} (hw : Region.wanted o (yielded ops a.tmps) = true) (hr : ∀ w1, (execOp a.eval o).run P w1 = .ok (.value (.slice (some ⟨w1.heap.size, 0, none⟩) 0 0)) (w1.alloc (.cells #[] te))) (hs : 0 ≤ maxLen)
 (h : ∀ b, wf.ownsRow w.heap.size te s (.slice (some ⟨b, 0, none⟩) 0 0) 0 [] → wpX P ops F w wf Q rest (a.put o.dst (.slice (some ⟨b, 0, none⟩) 0 0))) : wpX P ops F w wf Q (o :: rest) a :=
 x_made (V := fun wf u => ∃ b, u = .slice (some ⟨b, 0, none⟩) 0 0 ∧ wf.ownsRow w.heap.size te s (.slice (some ⟨b, 0, none⟩) 0 0) 0 []) hw
  (fun w1 e1 => ⟨_, _, hr w1, Ext.alloc _ _, fun wf hf => ⟨w1.heap.size, rfl, own_ext (World.ownsRow_made w1 #[] 0 e1.size hs (by simp)) hf⟩⟩)
  (fun u ⟨b, h1, h2⟩ => by subst h1; exact h b h2)
end
structure Tb (B : Nat) (E : Sh) (w : World) (p : Option Addr) (n c : Nat) (l : List E.T) (css : List (List Value)) (bss : List (List Nat)) : Prop where
 row : OwnRow w p n c css.flatten
 els : OwnEs w E css bss l
 nodup : (blocksOf p ++ bss.flatten).Nodup
 lo : ∀ b ∈ blocksOf p ++ bss.flatten, B ≤ b
 len : l.length = n
 cap : n ≤ c ∧ c ≤ maxLen
theorem Tb.cnt {B : Nat} {E : Sh} {w : World} {p : Option Addr} {n c : Nat} {l : List E.T} {css : List (List Value)} {bss : List (List Nat)} (h : Tb B E w p n c l css bss) : css.length = n := by rw [h.els.1, h.len]
theorem Tb.all {B : Nat} {E : Sh} {w : World} {p : Option Addr} {n c : Nat} {l : List E.T} {css : List (List Value)} {bss : List (List Nat)} (h : Tb B E w p n c l css bss) : ∀ x ∈ css, x.length = E.sz := h.els.all
theorem Tb.ext {B : Nat} {E : Sh} {w w' : World} {p : Option Addr} {n c : Nat} {l : List E.T} {css : List (List Value)} {bss : List (List Nat)} (h : Tb B E w p n c l css bss) (e : Ext w w') : Tb B E w' p n c l css bss :=
 ⟨h.row.chg (.of_ext e (S := fun _ => False)) (fun _ _ h => h), h.els.chg (.of_ext e) (S := fun _ => False) (fun _ _ h => h), h.nodup, h.lo, h.len, h.cap⟩
theorem Tb.lt {B : Nat} {E : Sh} {w : World} {p : Option Addr} {n c : Nat} {l : List E.T} {css : List (List Value)} {bss : List (List Nat)} (h : Tb B E w p n c l css bss) : ∀ b ∈ blocksOf p ++ bss.flatten, b < w.heap.size := by
 intro b hb
 rcases List.mem_append.1 hb with hb | hb
 · exact h.row.lt b hb
 · exact h.els.lt b hb
theorem Tb.at {B : Nat} {E : Sh} {w : World} {p : Option Addr} {n c : Nat} {l : List E.T} {css : List (List Value)} {bss : List (List Nat)} (h : Tb B E w p n c l css bss) {i : Nat} (hi : i < n) : ∃ cs bs d, css[i]? = some cs ∧ bss[i]? = some bs ∧ l[i]? = some d ∧ Own w E cs d bs := by
 have h1 := h.els.1; have h2 := h.els.2.1; have h3 := h.len
 exact ⟨css[i], bss[i], l[i], by simp, by simp, by simp, h.els.2.2 i _ _ _ (by simp) (by simp) (by simp)⟩
theorem set_flat_sub : ∀ {bss : List (List Nat)} {i : Nat} {bs : List Nat}, ∀ b ∈ (bss.set i bs).flatten, b ∈ bss.flatten ∨ b ∈ bs
 | [], _, _, b, hb => by simp at hb
 | x :: bss, 0, bs, b, hb => by
   simp only [List.set_cons_zero, List.flatten_cons, List.mem_append] at hb ⊢
   rcases hb with h | h
   · exact .inr h
   · exact .inl (.inr h)
 | x :: bss, i + 1, bs, b, hb => by
   simp only [List.set_cons_succ, List.flatten_cons, List.mem_append] at hb ⊢
   rcases hb with h | h
   · exact .inl (.inl h)
   · rcases set_flat_sub b h with h | h
     · exact .inl (.inr h)
     · exact .inr h
theorem set_flat_nodup : ∀ {bss : List (List Nat)} {i : Nat} {bs : List Nat}, bss.flatten.Nodup → bs.Nodup → (∀ b ∈ bs, b ∉ bss.flatten) → (bss.set i bs).flatten.Nodup
 | [], _, _, _, _, _ => by simp
 | x :: bss, 0, bs, h, hb, hd => by
   rw [List.flatten_cons, List.nodup_append] at h
   rw [List.set_cons_zero, List.flatten_cons, List.nodup_append]
   refine ⟨hb, h.2.1, fun a ha b hb' he => ?_⟩
   subst he
   exact hd a ha (by rw [List.flatten_cons]; exact List.mem_append_right _ hb')
 | x :: bss, i + 1, bs, h, hb, hd => by
   rw [List.flatten_cons, List.nodup_append] at h
   rw [List.set_cons_succ, List.flatten_cons, List.nodup_append]
   refine ⟨h.1, set_flat_nodup h.2.1 hb (fun b hb' hm => hd b hb' (by rw [List.flatten_cons]; exact List.mem_append_right _ hm)), fun a ha b hb' he => ?_⟩
   subst he
   rcases set_flat_sub a hb' with h' | h'
   · exact h.2.2 a ha a h' rfl
   · exact hd a h' (by rw [List.flatten_cons]; exact List.mem_append_left _ ha)
theorem Tb.put {B : Nat} {E : Sh} {w0 w w' : World} {p : Option Addr} {n c : Nat} {l : List E.T} {css : List (List Value)} {bss : List (List Nat)} (h : Tb B E w0 p n c l css bss) (e : Ext w0 w) {i : Nat} (hi : i < n) {cs : List Value} {d : E.T} {bs : List Nat}
 (ho : Own w E cs d bs) (hn : bs.Nodup) (hf : ∀ b ∈ bs, w0.heap.size ≤ b) (hB : B ≤ w0.heap.size) (hr : OwnRow w' p n c (css.set i cs).flatten) (k : Chg (fun b => b ∈ blocksOf p) w w') : Tb B E w' p n c (l.set i d) (css.set i cs) (bss.set i bs) := by
 have lt0 := h.lt
 have h1 := h.els.1; have h2 := h.els.2.1; have h3 := h.len
 obtain ⟨n1, n2, n3, n4⟩ := nodup_split h.nodup
 have hels := (h.ext e).els
 refine ⟨hr, ⟨by simp [h1], by simp [h2], fun j cs' bs' d' g1 g2 g3 => ?_⟩, ?_, ?_, by rw [List.length_set]; exact h3, h.cap⟩
 · by_cases hj : i = j
   · subst hj
     rw [List.getElem?_set_self (by omega)] at g1 g2 g3
     cases g1; cases g2; cases g3
     exact ho.chg k fun b hb hs => by have := hf b hb; have := lt0 b (List.mem_append_left _ hs); omega
   · rw [List.getElem?_set_ne hj] at g1 g2 g3
     exact (hels.2.2 j cs' bs' d' g1 g2 g3).chg k fun b hb hs => n3 b hs (List.mem_flatten.2 ⟨bs', List.mem_of_getElem? g2, hb⟩)
 · rw [List.nodup_append]
   refine ⟨n1, set_flat_nodup n2 hn (fun b hb hm => by have := hf b hb; have := lt0 b (List.mem_append_right _ hm); omega), fun a ha b hb he => ?_⟩
   subst he
   rcases set_flat_sub a hb with h' | h'
   · exact n3 a ha h'
   · have := hf a h'; have := lt0 a (List.mem_append_left _ ha); omega
 · intro b hb
   rcases List.mem_append.1 hb with hb | hb
   · exact h.lo b (List.mem_append_left _ hb)
   · rcases set_flat_sub b hb with h' | h'
     · exact h.lo b (List.mem_append_right _ h')
     · have := hf b h'; omega
section
variable {P : Program} {w : World} {ops : Array Oper} {rest : List Oper} {o : Oper} {a : Act} {Q : Exit → Act → World → Prop}
theorem wl_store1 {t : TypeId} [Cell1 P t] {x y : Operand} (hg : o.guard = none) (ho : o.op = .store t x y) {q : Addr} {u v : Value} (hx : a.eval x = .pointer (some q)) (hy : a.eval y = u) (hu : u.oneCell' = true) (hc : w.cell? q = some v) (hf : w.frozen? q = false)
 (h : wpList P ops Q rest (a.put o.dst undef) (w.setCell q u)) : wpList P ops Q (o :: rest) a w :=
 wl_skip hg (w' := w.setCell q u) (by simp [execOp, ho, hx, hy, run_store1 hc hf hu]) h
end
def HB (w : World) (b : Nat) (Z : Array Value) (t : TypeId) : Prop := w.heap[b]? = some (.cells Z t)
theorem HB.cell {w : World} {b : Nat} {Z : Array Value} {t : TypeId} (h : HB w b Z t) (j : Nat) {v : Value} (hv : Z[j]? = some v) : w.cell? ⟨b, j, none⟩ = some v := cell_of_heap h hv
theorem HB.froz {w : World} {b : Nat} {Z : Array Value} {t : TypeId} (h : HB w b Z t) (j : Nat) : w.frozen? ⟨b, j, none⟩ = false := frozen_of_heap h
theorem HB.ext {w w' : World} {b : Nat} {Z : Array Value} {t : TypeId} (h : HB w b Z t) (e : Ext w w') : HB w' b Z t := by
 have hb : b < w.heap.size := by
  rcases Nat.lt_or_ge b w.heap.size with h' | h'
  · exact h'
  · unfold HB at h; simp [Array.getElem?_eq_none h'] at h
 unfold HB at *
 rw [e.block b hb]; exact h
theorem HB.lt {w : World} {b : Nat} {Z : Array Value} {t : TypeId} (h : HB w b Z t) : b < w.heap.size := by
 rcases Nat.lt_or_ge b w.heap.size with h' | h'
 · exact h'
 · unfold HB at h; simp [Array.getElem?_eq_none h'] at h
theorem HB.chg {S : Nat → Prop} {w w' : World} {b : Nat} {Z : Array Value} {t : TypeId} (h : HB w b Z t) (k : Chg S w w') (hS : ¬ S b) : HB w' b Z t := by
 have hb := h.lt
 unfold HB at *
 rw [k.block b hb hS]; exact h
theorem HB.set {w : World} {b : Nat} {Z : Array Value} {t : TypeId} (h : HB w b Z t) (j : Nat) (v : Value) : HB (w.setCell ⟨b, j, none⟩ v) b (Z.setIfInBounds j v) t := by
 unfold HB at *
 simp [World.setCell, Array.getElem?_modify, h]
theorem HB.new (w : World) (Z : Array Value) (t : TypeId) : HB (w.alloc (.cells Z t)) w.heap.size Z t := heap_alloc_new w _
theorem chg_cell (w : World) (b j : Nat) (u : Value) : Chg (fun k => k = b) w (w.setCell ⟨b, j, none⟩ u) := ⟨rfl, rfl, rfl, by simp [World.setCell], fun k hk hn => Below.heap_setCell _ _ _ _ (fun h => hn h)⟩
section
variable {P : Program} {w : World} {ops : Array Oper} {rest : List Oper} {o : Oper} {a : Act} {Q : Exit → Act → World → Prop}
theorem wl_stHB {t : TypeId} [Cell1 P t] {x y : Operand} (hg : o.guard = none) (ho : o.op = .store t x y) {b j : Nat} {Z : Array Value} {te : TypeId} {u v : Value} (hb : HB w b Z te) (hj : Z[j]? = some v) (hx : a.eval x = .pointer (some ⟨b, j, none⟩)) (hy : a.eval y = u) (hu : u.oneCell' = true)
 (h : ∀ w', HB w' b (Z.setIfInBounds j u) te → Chg (fun k => k = b) w w' → wpList P ops Q rest (a.put o.dst undef) w') : wpList P ops Q (o :: rest) a w :=
 wl_store1 hg ho hx hy hu (hb.cell j hj) (hb.froz j) (h _ (hb.set j u) ⟨rfl, rfl, rfl, by simp [World.setCell], fun k hk hn => Below.heap_setCell _ _ _ _ (fun h => hn h)⟩)
end
def Small (L : List shLayer.T) : Prop := L.length ≤ 12 ∧ ∀ d ∈ L, (d.2.2.2.1 : List Nat).length ≤ 64 ∧ (d.2.2.2.2.1 : List Nat).length ≤ 64
theorem lay_full {w : World} {cs : List Value} {d : shLayer.T} (h : Rep w shLayer cs d) : ∃ pw cw pb cb uw ub, cs = [.int .i64 d.1, .int .i64 d.2.1, .int .i64 d.2.2.1, .slice pw (d.2.2.2.1 : List Nat).length cw, .slice pb (d.2.2.2.2.1 : List Nat).length cb] ∧
 (Cs w pw uw ∧ F32s uw d.2.2.2.1 ∧ (d.2.2.2.1 : List Nat).length ≤ cw) ∧ (Cs w pb ub ∧ F32s ub d.2.2.2.2.1 ∧ (d.2.2.2.2.1 : List Nat).length ≤ cb) := by
 obtain ⟨a1, a2, a3, a4, a5, au⟩ := d
 obtain ⟨_, _, rfl, rfl, _, _, rfl, rfl, _, _, rfl, rfl, _, _, rfl, h4, _, _, rfl, h5, rfl⟩ := h
 obtain ⟨p4, c4, u4, rfl, g1, g2, g3, _⟩ := rep_flts.1 h4
 obtain ⟨p5, c5, u5, rfl, k1, k2, k3, _⟩ := rep_flts.1 h5
 exact ⟨p4, c4, p5, c5, u4, u5, rfl, ⟨g1, g2, g3⟩, ⟨k1, k2, k3⟩⟩
theorem getD_app {A : Type} (l k : List A) (d : A) (j : Nat) : (l ++ k).getD j d = if j < l.length then l.getD j d else k.getD (j - l.length) d := by
 by_cases h : j < l.length
 · rw [if_pos h]; simp [List.getD_eq_getElem?_getD, List.getElem?_append_left h]
 · rw [if_neg h]; simp [List.getD_eq_getElem?_getD, List.getElem?_append_right (Nat.le_of_not_lt h)]
theorem getD_appl {A : Type} (l k : List A) (d : A) (j : Nat) (h : j < l.length) : (l ++ k).getD j d = l.getD j d := by rw [getD_app, if_pos h]
theorem getD_appr {A : Type} (l k : List A) (d : A) (j : Nat) (h : l.length ≤ j) : (l ++ k).getD j d = k.getD (j - l.length) d := by rw [getD_app, if_neg (by omega)]
def ntab (n : Nat) (f : Nat → Nat) : List Nat := (List.range n).map f
theorem ntab_len (n : Nat) (f : Nat → Nat) : (ntab n f).length = n := by simp [ntab]
theorem ntab_get {n i : Nat} (f : Nat → Nat) (h : i < n) : (ntab n f).getD i 0 = f i := by simp [ntab, h]
theorem ntab_succ (n : Nat) (f : Nat → Nat) : ntab (n + 1) f = ntab n f ++ [f n] := by simp [ntab, List.range_succ]
theorem ntab_congr {n : Nat} {f g : Nat → Nat} (h : ∀ i, i < n → f i = g i) : ntab n f = ntab n g := by
 unfold ntab
 exact List.map_congr_left fun i hi => h i (by simpa using hi)
def addX (n : Nat) (xs ys : List Nat) : List Nat := ntab n fun i => fop .add .f32 (xs.getD i 0) (ys.getD i 0)
def mulX (n : Nat) (xs ys : List Nat) : List Nat := ntab n fun i => fop .mul .f32 (xs.getD i 0) (ys.getD i 0)
def addRX (n c : Nat) (xs ys : List Nat) : List Nat := ntab n fun i => fop .add .f32 (xs.getD i 0) (ys.getD (i % c) 0)
def mulRX (n c : Nat) (xs ys : List Nat) : List Nat := ntab n fun i => fop .mul .f32 (xs.getD i 0) (ys.getD (i % c) 0)
def sclX (n : Nat) (xs : List Nat) (z : Nat) : List Nat := ntab n fun i => fop .mul .f32 (xs.getD i 0) z
def rluX (n : Nat) (xs : List Nat) : List Nat := ntab n fun i => reluF (xs.getD i 0)
def turnX (r c : Nat) (xs : List Nat) : List Nat := ntab (c * r) fun k => xs.getD (k % r * c + k / r) 0
def mmX (a n b : Nat) (xs ys : List Nat) : List Nat := ntab (a * b) fun k => dotG (fun j => xs.getD (k / b * n + j) 0) (fun j => ys.getD (j * b + k % b) 0) n
def colG (c j : Nat) (xs : List Nat) : Nat → Nat
 | 0 => 0
 | m + 1 => if m % c = j then fop .add .f32 (colG c j xs m) (xs.getD m 0) else colG c j xs m
def sumRX (c : Nat) (xs : List Nat) : List Nat := ntab c fun j => colG c j xs xs.length
def rpX (n : Nat) (xs gs : List Nat) : List Nat := ntab n fun i => if fgt .f32 (xs.getD i 0) 0 then gs.getD i 0 else 0
theorem div_mod_at {b i k : Nat} (hk : k < b) : (i * b + k) / b = i ∧ (i * b + k) % b = k := by
 have hb : 0 < b := by omega
 constructor
 · rw [Nat.mul_comm, Nat.mul_add_div hb, Nat.div_eq_of_lt hk, Nat.add_zero]
 · rw [Nat.mul_comm, Nat.mul_add_mod, Nat.mod_eq_of_lt hk]
theorem row_lt {b i k a : Nat} (hi : i < a) (hk : k < b) : i * b + k < a * b := by
 have := Nat.mul_le_mul_right b (show i + 1 ≤ a by omega)
 rw [Nat.add_mul, Nat.one_mul] at this; omega
end Go.Proofs.YtlimabbeaimdgaaGreat
