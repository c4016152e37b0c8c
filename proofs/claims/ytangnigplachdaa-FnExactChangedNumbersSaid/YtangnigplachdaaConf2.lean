/- The confusion of labels, the reference's part. -/
import Derived.Test.YtangnigplachdaaConf
import Derived.Test.YtangnigplachdaaKf
namespace Go.Proofs.Ytangnigplachdaa
set_option linter.unusedSimpArgs false
set_option linter.unusedVariables false
open Go.RowKit

def labB (L : List shLayer.T) (r k : Int) (n : Nat) (l : List Int) : Bool := modB L && (tenB r k n && (decide (k = inL L 0) && (decide ((l.length : Int) = r) && lblGo (outL L) l 0)))
theorem labB_iff {d : shModel.T} {x : shTensor.T} {l : List Int} : labB d.1 x.1 x.2.1 (x.2.2.1 : List Nat).length l = true ↔ okL d x l := by
  unfold labB okL lblGo
  rw [List.drop_zero]
  simp only [Bool.and_eq_true, decide_eq_true_eq]
  constructor
  · rintro ⟨h1, h2, h3, h4, h5⟩; exact ⟨⟨h1, h2, h3⟩, h4, h5⟩
  · rintro ⟨⟨h1, h2, h3⟩, h4, h5⟩; exact ⟨h1, h2, h3, h4, h5⟩
set_option maxRecDepth 100000 in
set_option maxHeartbeats 4000000 in
theorem l10Labels_any (bl bt : Nat) (p q p3 : Option Addr) (n c nx cq n2 c3 : Nat) (r k : Int) (css : List (List Value)) (L : List shLayer.T) (l : List Int) (w : World) (hLay : Lays w p n css L) (f0 : w.cell? ⟨bl, 0, none⟩ = some (.slice p n c)) (hnx : nx ≤ maxLen)
    (t0 : w.cell? ⟨bt, 0, none⟩ = some (.int .i64 r)) (t1 : w.cell? ⟨bt, 1, none⟩ = some (.int .i64 k)) (t2 : w.cell? ⟨bt, 2, none⟩ = some (.slice q nx cq)) (hl : Cs w p3 (l.map (Value.int .i64))) (hln : l.length = n2) (hn2 : n2 ≤ maxLen) :
    Calls Try.prog 103 #[.pointer (some ⟨bl, 0, none⟩), .pointer (some ⟨bt, 0, none⟩), .slice p3 n2 c3] w (RetB w (labB L r k nx l)) := by
  unfold maxLen at hn2
  have A := hid (fun W (h : Ext w W) => l03Is_any (sp := none) bl 0 p n c L css W (h.cell f0) hLay.len hLay.le (hLay.cs.ext h) (hLay.all.imp fun _ _ => Rep.ext h) hLay.size hLay.cnt)
  have B := hid (fun W (h : Ext w W) => l02Is_any (sp := none) bt 0 r k q nx cq W (h.cell t0) (h.cell t1) (h.cell t2) hnx)
  have D := hid (fun W (h : Ext w W) h1 => l03In_any (sp := none) bl 0 p n c css L W (hLay.ext h) h1 (h.cell f0))
  have E := hid (fun W (h : Ext w W) h1 => l03Out_any (sp := none) bl 0 p n c css L W (hLay.ext h) h1 (h.cell f0))
  have hpos := hid (fun (h : modB L = true) => show 1 ≤ n from by have := (modOk h).pos; rw [hLay.len] at this; exact this)
  have hO := hid (fun (h : modB L = true) => outL_nat (modOk h))
  have HN := hid hln
  unfold labB
  rw [hln]
  clear hLay hln hnx
  generalize inL L 0 = I at *
  generalize tenB r k nx = b1 at *
  have eD := Ext.drew w
  have d0 := eD.cell f0; have d1 := eD.cell t0; have d2 := eD.cell t1; have d3 := eD.cell t2
  cases hb0 : modB L
  · rw [hb0] at A
    clear D E hpos hO hb0
    rw [Bool.false_and]
    obtain ⟨F, hF⟩ : ∃ F : Option Tmp → World → Value → Prop, F = fun d _ u => match d with | some 9 => u = .bool false | some 13 => u = .bool b1 | _ => u = .int .i64 I := ⟨_, rfl⟩
    have HF := hid hF
    clear hF
    go_enter Try.func103, Try.ntmps103
    go_wp2
    refine wp_region_xall (F := F) (by kernel_rfl) (by kernel_rfl) (by kernel_rfl) ?_
    intro wf hwf
    repeat (first
      | (refine x_skip rfl ?_; simp only [Act.put, ev_tmp, List.setIfInBounds_toArray, List.set_cons_succ, List.set_cons_zero, List.getD_cons_succ, List.getD_cons_zero])
      | (refine x_mv rfl rfl rfl ?_; simp only [Act.put, ev_tmp, List.setIfInBounds_toArray, List.set_cons_succ, List.set_cons_zero, List.getD_cons_succ, List.getD_cons_zero])
      | (refine x_as rfl rfl rfl ?_; simp only [Act.put, ev_tmp, List.setIfInBounds_toArray, List.set_cons_succ, List.set_cons_zero, List.getD_cons_succ, List.getD_cons_zero])
      | ((with_reducible show wpX _ _ _ _ _ _ (Oper.mk _ (Op.call _) _ _ _ _ :: _) _); refine x_callf (f := 79) (args := #[.pointer (some ⟨bl, 0, none⟩)]) rfl rfl Try.func79 rfl (by kernel_rfl) ?_ ?_ ?_; (focus (simp [Act.eval]; done)); (focus (intro w1 hw1; exact (by rw [HF.out]; exact (A.out w1 (eD.trans hw1)).mono fun e w3 h => ⟨_, h.1, h.2, rfl⟩))); rintro u w3 e3 e4 hu; simp only [HF.out] at hu; subst hu; simp only [Act.put, ev_tmp, List.setIfInBounds_toArray, List.set_cons_succ, List.set_cons_zero, List.getD_cons_succ, List.getD_cons_zero])
      | (refine x_run rfl fun K hK w1 hw1 => ?_; have k0 := hw1.cell (d0); have k1 := hw1.cell (d1); have k2 := hw1.cell (d2); have k3 := hw1.cell (d3); go_simp; refine hK _ ?_; clear hK K k0 k1 k2 k3 hw1 w1))
    refine x_nil ?_
    go_wp2
    go_ret
    exact ⟨rfl, eD.trans hwf⟩
  rw [Bool.true_and]
  have D1 := hid (fun W h => D.out W h (hpos.out hb0))
  have E1 := hid (fun W h => E.out W h (hpos.out hb0))
  obtain ⟨O, hO1, hO2, hO3⟩ := hO.out hb0
  rw [← hO1] at E1 ⊢
  rw [hb0] at A
  clear D E hpos hO hb0 hO1
  cases b1
  · rw [Bool.false_and]
    obtain ⟨F, hF⟩ : ∃ F : Option Tmp → World → Value → Prop, F = fun d _ u => match d with | some 9 => u = .bool true | some 13 => u = .bool false | _ => u = .int .i64 I := ⟨_, rfl⟩
    have HF := hid hF
    clear hF
    go_enter Try.func103, Try.ntmps103
    go_wp2
    refine wp_region_xall (F := F) (by kernel_rfl) (by kernel_rfl) (by kernel_rfl) ?_
    intro wf hwf
    repeat (first
      | (refine x_skip rfl ?_; simp only [Act.put, ev_tmp, List.setIfInBounds_toArray, List.set_cons_succ, List.set_cons_zero, List.getD_cons_succ, List.getD_cons_zero])
      | (refine x_mv rfl rfl rfl ?_; simp only [Act.put, ev_tmp, List.setIfInBounds_toArray, List.set_cons_succ, List.set_cons_zero, List.getD_cons_succ, List.getD_cons_zero])
      | (refine x_as rfl rfl rfl ?_; simp only [Act.put, ev_tmp, List.setIfInBounds_toArray, List.set_cons_succ, List.set_cons_zero, List.getD_cons_succ, List.getD_cons_zero])
      | ((with_reducible show wpX _ _ _ _ _ _ (Oper.mk _ (Op.call _) _ _ _ _ :: _) _); refine x_callf (f := 79) (args := #[.pointer (some ⟨bl, 0, none⟩)]) rfl rfl Try.func79 rfl (by kernel_rfl) ?_ ?_ ?_; (focus (simp [Act.eval]; done)); (focus (intro w1 hw1; exact (by rw [HF.out]; exact (A.out w1 (eD.trans hw1)).mono fun e w3 h => ⟨_, h.1, h.2, rfl⟩))); rintro u w3 e3 e4 hu; simp only [HF.out] at hu; subst hu; simp only [Act.put, ev_tmp, List.setIfInBounds_toArray, List.set_cons_succ, List.set_cons_zero, List.getD_cons_succ, List.getD_cons_zero])
      | ((with_reducible show wpX _ _ _ _ _ _ (Oper.mk _ (Op.call _) _ _ _ _ :: _) _); refine x_callf (f := 91) (args := #[.pointer (some ⟨bt, 0, none⟩)]) rfl rfl Try.func91 rfl (by kernel_rfl) ?_ ?_ ?_; (focus (simp [Act.eval]; done)); (focus (intro w1 hw1; exact (by rw [HF.out]; exact (B.out w1 (eD.trans hw1)).mono fun e w3 h => ⟨_, h.1, h.2, rfl⟩))); rintro u w3 e3 e4 hu; simp only [HF.out] at hu; subst hu; simp only [Act.put, ev_tmp, List.setIfInBounds_toArray, List.set_cons_succ, List.set_cons_zero, List.getD_cons_succ, List.getD_cons_zero])
      | (refine x_run rfl fun K hK w1 hw1 => ?_; have k0 := hw1.cell (d0); have k1 := hw1.cell (d1); have k2 := hw1.cell (d2); have k3 := hw1.cell (d3); go_simp; refine hK _ ?_; clear hK K k0 k1 k2 k3 hw1 w1))
    refine x_nil ?_
    go_wp2
    go_ret
    exact ⟨rfl, eD.trans hwf⟩
  rw [Bool.true_and]
  obtain ⟨F, hF⟩ : ∃ F : Option Tmp → World → Value → Prop, F = fun d _ u => match d with | some 9 => u = .bool true | some 13 => u = .bool true | _ => u = .int .i64 I := ⟨_, rfl⟩
  have HF := hid hF
  clear hF
  by_cases hk : k = I
  case neg =>
    rw [decide_eq_false hk, Bool.false_and]
    have hT := bne_t hk
    clear hk
    go_enter Try.func103, Try.ntmps103
    go_wp2
    refine wp_region_xall (F := F) (by kernel_rfl) (by kernel_rfl) (by kernel_rfl) ?_
    intro wf hwf
    repeat (first
      | (refine x_skip rfl ?_; simp only [Act.put, ev_tmp, List.setIfInBounds_toArray, List.set_cons_succ, List.set_cons_zero, List.getD_cons_succ, List.getD_cons_zero])
      | (refine x_mv rfl rfl rfl ?_; simp only [Act.put, ev_tmp, List.setIfInBounds_toArray, List.set_cons_succ, List.set_cons_zero, List.getD_cons_succ, List.getD_cons_zero])
      | (refine x_as rfl rfl rfl ?_; simp only [Act.put, ev_tmp, List.setIfInBounds_toArray, List.set_cons_succ, List.set_cons_zero, List.getD_cons_succ, List.getD_cons_zero])
      | ((with_reducible show wpX _ _ _ _ _ _ (Oper.mk _ (Op.call _) _ _ _ _ :: _) _); refine x_callf (f := 79) (args := #[.pointer (some ⟨bl, 0, none⟩)]) rfl rfl Try.func79 rfl (by kernel_rfl) ?_ ?_ ?_; (focus (simp [Act.eval]; done)); (focus (intro w1 hw1; exact (by rw [HF.out]; exact (A.out w1 (eD.trans hw1)).mono fun e w3 h => ⟨_, h.1, h.2, rfl⟩))); rintro u w3 e3 e4 hu; simp only [HF.out] at hu; subst hu; simp only [Act.put, ev_tmp, List.setIfInBounds_toArray, List.set_cons_succ, List.set_cons_zero, List.getD_cons_succ, List.getD_cons_zero])
      | ((with_reducible show wpX _ _ _ _ _ _ (Oper.mk _ (Op.call _) _ _ _ _ :: _) _); refine x_callf (f := 91) (args := #[.pointer (some ⟨bt, 0, none⟩)]) rfl rfl Try.func91 rfl (by kernel_rfl) ?_ ?_ ?_; (focus (simp [Act.eval]; done)); (focus (intro w1 hw1; exact (by rw [HF.out]; exact (B.out w1 (eD.trans hw1)).mono fun e w3 h => ⟨_, h.1, h.2, rfl⟩))); rintro u w3 e3 e4 hu; simp only [HF.out] at hu; subst hu; simp only [Act.put, ev_tmp, List.setIfInBounds_toArray, List.set_cons_succ, List.set_cons_zero, List.getD_cons_succ, List.getD_cons_zero])
      | ((with_reducible show wpX _ _ _ _ _ _ (Oper.mk _ (Op.call _) _ _ _ _ :: _) _); refine x_callf (f := 80) (args := #[.pointer (some ⟨bl, 0, none⟩)]) rfl rfl Try.func80 rfl (by kernel_rfl) ?_ ?_ ?_; (focus (simp [Act.eval]; done)); (focus (intro w1 hw1; exact (by rw [HF.out]; exact (D1.out w1 (eD.trans hw1)).mono fun e w3 h => ⟨_, h.1, h.2, rfl⟩))); rintro u w3 e3 e4 hu; simp only [HF.out] at hu; subst hu; simp only [Act.put, ev_tmp, List.setIfInBounds_toArray, List.set_cons_succ, List.set_cons_zero, List.getD_cons_succ, List.getD_cons_zero])
      | (refine x_run rfl fun K hK w1 hw1 => ?_; have k0 := hw1.cell (d0); have k1 := hw1.cell (d1); have k2 := hw1.cell (d2); have k3 := hw1.cell (d3); go_simp; refine hK _ ?_; clear hK K k0 k1 k2 k3 hw1 w1))
    refine x_nil ?_
    go_wp2
    go_ret
    exact ⟨rfl, eD.trans hwf⟩
  rw [decide_eq_true hk, Bool.true_and]
  have hT := bne_f hk
  clear hk
  by_cases hr : (n2 : Int) = r
  case neg =>
    rw [decide_eq_false hr, Bool.false_and]
    have hT2 := bne_t hr
    clear hr
    go_enter Try.func103, Try.ntmps103
    go_wp2
    refine wp_region_xall (F := F) (by kernel_rfl) (by kernel_rfl) (by kernel_rfl) ?_
    intro wf hwf
    repeat (first
      | (refine x_skip rfl ?_; simp only [Act.put, ev_tmp, List.setIfInBounds_toArray, List.set_cons_succ, List.set_cons_zero, List.getD_cons_succ, List.getD_cons_zero])
      | (refine x_mv rfl rfl rfl ?_; simp only [Act.put, ev_tmp, List.setIfInBounds_toArray, List.set_cons_succ, List.set_cons_zero, List.getD_cons_succ, List.getD_cons_zero])
      | (refine x_as rfl rfl rfl ?_; simp only [Act.put, ev_tmp, List.setIfInBounds_toArray, List.set_cons_succ, List.set_cons_zero, List.getD_cons_succ, List.getD_cons_zero])
      | ((with_reducible show wpX _ _ _ _ _ _ (Oper.mk _ (Op.call _) _ _ _ _ :: _) _); refine x_callf (f := 79) (args := #[.pointer (some ⟨bl, 0, none⟩)]) rfl rfl Try.func79 rfl (by kernel_rfl) ?_ ?_ ?_; (focus (simp [Act.eval]; done)); (focus (intro w1 hw1; exact (by rw [HF.out]; exact (A.out w1 (eD.trans hw1)).mono fun e w3 h => ⟨_, h.1, h.2, rfl⟩))); rintro u w3 e3 e4 hu; simp only [HF.out] at hu; subst hu; simp only [Act.put, ev_tmp, List.setIfInBounds_toArray, List.set_cons_succ, List.set_cons_zero, List.getD_cons_succ, List.getD_cons_zero])
      | ((with_reducible show wpX _ _ _ _ _ _ (Oper.mk _ (Op.call _) _ _ _ _ :: _) _); refine x_callf (f := 91) (args := #[.pointer (some ⟨bt, 0, none⟩)]) rfl rfl Try.func91 rfl (by kernel_rfl) ?_ ?_ ?_; (focus (simp [Act.eval]; done)); (focus (intro w1 hw1; exact (by rw [HF.out]; exact (B.out w1 (eD.trans hw1)).mono fun e w3 h => ⟨_, h.1, h.2, rfl⟩))); rintro u w3 e3 e4 hu; simp only [HF.out] at hu; subst hu; simp only [Act.put, ev_tmp, List.setIfInBounds_toArray, List.set_cons_succ, List.set_cons_zero, List.getD_cons_succ, List.getD_cons_zero])
      | ((with_reducible show wpX _ _ _ _ _ _ (Oper.mk _ (Op.call _) _ _ _ _ :: _) _); refine x_callf (f := 80) (args := #[.pointer (some ⟨bl, 0, none⟩)]) rfl rfl Try.func80 rfl (by kernel_rfl) ?_ ?_ ?_; (focus (simp [Act.eval]; done)); (focus (intro w1 hw1; exact (by rw [HF.out]; exact (D1.out w1 (eD.trans hw1)).mono fun e w3 h => ⟨_, h.1, h.2, rfl⟩))); rintro u w3 e3 e4 hu; simp only [HF.out] at hu; subst hu; simp only [Act.put, ev_tmp, List.setIfInBounds_toArray, List.set_cons_succ, List.set_cons_zero, List.getD_cons_succ, List.getD_cons_zero])
      | (refine x_run rfl fun K hK w1 hw1 => ?_; have k0 := hw1.cell (d0); have k1 := hw1.cell (d1); have k2 := hw1.cell (d2); have k3 := hw1.cell (d3); go_simp; refine hK _ ?_; clear hK K k0 k1 k2 k3 hw1 w1))
    refine x_nil ?_
    go_wp2
    go_ret
    exact ⟨rfl, eD.trans hwf⟩
  rw [decide_eq_true hr, Bool.true_and]
  have hT2 := bne_f hr
  clear hr
  generalize hG0 : lblGo O l 0 = G
  have HG := hid hG0
  clear hG0
  go_enter Try.func103, Try.ntmps103
  go_wp2
  refine wp_region_xall (F := F) (by kernel_rfl) (by kernel_rfl) (by kernel_rfl) ?_
  intro wf hwf
  repeat (first
    | (refine x_skip rfl ?_; simp only [Act.put, ev_tmp, List.setIfInBounds_toArray, List.set_cons_succ, List.set_cons_zero, List.getD_cons_succ, List.getD_cons_zero])
    | (refine x_mv rfl rfl rfl ?_; simp only [Act.put, ev_tmp, List.setIfInBounds_toArray, List.set_cons_succ, List.set_cons_zero, List.getD_cons_succ, List.getD_cons_zero])
    | (refine x_as rfl rfl rfl ?_; simp only [Act.put, ev_tmp, List.setIfInBounds_toArray, List.set_cons_succ, List.set_cons_zero, List.getD_cons_succ, List.getD_cons_zero])
    | ((with_reducible show wpX _ _ _ _ _ _ (Oper.mk _ (Op.call _) _ _ _ _ :: _) _); refine x_callf (f := 79) (args := #[.pointer (some ⟨bl, 0, none⟩)]) rfl rfl Try.func79 rfl (by kernel_rfl) ?_ ?_ ?_; (focus (simp [Act.eval]; done)); (focus (intro w1 hw1; exact (by rw [HF.out]; exact (A.out w1 (eD.trans hw1)).mono fun e w3 h => ⟨_, h.1, h.2, rfl⟩))); rintro u w3 e3 e4 hu; simp only [HF.out] at hu; subst hu; simp only [Act.put, ev_tmp, List.setIfInBounds_toArray, List.set_cons_succ, List.set_cons_zero, List.getD_cons_succ, List.getD_cons_zero])
    | ((with_reducible show wpX _ _ _ _ _ _ (Oper.mk _ (Op.call _) _ _ _ _ :: _) _); refine x_callf (f := 91) (args := #[.pointer (some ⟨bt, 0, none⟩)]) rfl rfl Try.func91 rfl (by kernel_rfl) ?_ ?_ ?_; (focus (simp [Act.eval]; done)); (focus (intro w1 hw1; exact (by rw [HF.out]; exact (B.out w1 (eD.trans hw1)).mono fun e w3 h => ⟨_, h.1, h.2, rfl⟩))); rintro u w3 e3 e4 hu; simp only [HF.out] at hu; subst hu; simp only [Act.put, ev_tmp, List.setIfInBounds_toArray, List.set_cons_succ, List.set_cons_zero, List.getD_cons_succ, List.getD_cons_zero])
    | ((with_reducible show wpX _ _ _ _ _ _ (Oper.mk _ (Op.call _) _ _ _ _ :: _) _); refine x_callf (f := 80) (args := #[.pointer (some ⟨bl, 0, none⟩)]) rfl rfl Try.func80 rfl (by kernel_rfl) ?_ ?_ ?_; (focus (simp [Act.eval]; done)); (focus (intro w1 hw1; exact (by rw [HF.out]; exact (D1.out w1 (eD.trans hw1)).mono fun e w3 h => ⟨_, h.1, h.2, rfl⟩))); rintro u w3 e3 e4 hu; simp only [HF.out] at hu; subst hu; simp only [Act.put, ev_tmp, List.setIfInBounds_toArray, List.set_cons_succ, List.set_cons_zero, List.getD_cons_succ, List.getD_cons_zero])
    | (refine x_run rfl fun K hK w1 hw1 => ?_; have k0 := hw1.cell (d0); have k1 := hw1.cell (d1); have k2 := hw1.cell (d2); have k3 := hw1.cell (d3); go_simp; refine hK _ ?_; clear hK K k0 k1 k2 k3 hw1 w1))
  refine x_nil ?_
  have e1 := eD.trans hwf
  go_wp2
  go_loopw [7] (fun iv wr => ∃ (i : Nat), i ≤ n2 ∧ iv = .int .i64 i ∧ Hid (lblGo O l i = G) ∧ Ext w wr) (fun iv _ => n2 - (intOf iv).toNat)
  case atStart => exact ⟨0, by omega, rfl, HG, e1⟩
  case round =>
    clear HG e1 hwf d0 d1 d2 d3 eD
    obtain ⟨i, hi, rfl, HI, he⟩ := hrel
    by_cases hlt : i < n2
    · have hst := HI.out
      rw [lblGo_at (by rw [HN.out]; exact hlt)] at hst
      have hv : l[i]'(by rw [HN.out]; exact hlt) = l.getD i 0 := by
        rw [List.getD_eq_getElem?_getD, List.getElem?_eq_getElem (by rw [HN.out]; exact hlt)]; rfl
      rw [hv] at hst
      generalize hlb : l.getD i 0 = lb at *
      have Hlb := hid hlb
      have K := hid (fun W => l00In_any lb 0 (O - 1) W)
      have qO : IntKind.i64.wrap ((O : Int) - 1) = (O : Int) - 1 := wrap_in _ (by omega) (by omega)
      have hD := Ext.drew wr
      have hWD := he.trans hD
      have hlD := hl.ext hWD
      clear hv hlb
      cases hin : inB lb 0 ((O : Int) - 1)
      · rw [hin] at K hst
        have hG := hid (show false = G by rw [← hst]; rfl)
        clear hst hin
        obtain ⟨F2, hF⟩ : ∃ F : Option Tmp → World → Value → Prop, F = fun d _ u => match d with | some 45 => u = .int .i64 O | _ => u = .bool false := ⟨_, rfl⟩
        have HF2 := hid hF
        clear hF
        go_wp2
        refine wp_region_xall (F := F2) (by kernel_rfl) (by kernel_rfl) (by kernel_rfl) ?_
        intro wf hwf
        repeat (first
          | (refine x_skip rfl ?_; simp only [Act.put, ev_tmp, List.setIfInBounds_toArray, List.set_cons_succ, List.set_cons_zero, List.getD_cons_succ, List.getD_cons_zero])
          | (refine x_mv rfl rfl rfl ?_; simp only [Act.put, ev_tmp, List.setIfInBounds_toArray, List.set_cons_succ, List.set_cons_zero, List.getD_cons_succ, List.getD_cons_zero])
          | (refine x_as rfl rfl rfl ?_; simp only [Act.put, ev_tmp, List.setIfInBounds_toArray, List.set_cons_succ, List.set_cons_zero, List.getD_cons_succ, List.getD_cons_zero])
          | ((with_reducible show wpX _ _ _ _ _ _ (Oper.mk _ (Op.indexAddr _ _ _) _ _ _ _ :: Oper.mk _ (Op.load _ _) _ _ _ _ :: _) _); refine x_ldI rfl rfl (fun _ => rfl) rfl (fun _ => rfl) rfl rfl hlD HN.out (by omega) (by omega) ?_; rw [Int.toNat_natCast, Hlb.out]; simp only [Act.put, ev_tmp, List.setIfInBounds_toArray, List.set_cons_succ, List.set_cons_zero, List.getD_cons_succ, List.getD_cons_zero])
          | ((with_reducible show wpX _ _ _ _ _ _ (Oper.mk _ (Op.call _) _ _ _ _ :: _) _); refine x_callf (f := 96) (args := #[.pointer (some ⟨bl, 0, none⟩)]) rfl rfl Try.func96 rfl (by kernel_rfl) ?_ ?_ ?_; (focus (simp [Act.eval]; done)); (focus (intro w1 hw1; exact (by rw [HF2.out]; exact (E1.out w1 (hWD.trans hw1)).mono fun e w3 h => ⟨_, h.1, h.2, rfl⟩))); rintro u w3 e3 e4 hu; simp only [HF2.out] at hu; subst hu; simp only [Act.put, ev_tmp, List.setIfInBounds_toArray, List.set_cons_succ, List.set_cons_zero, List.getD_cons_succ, List.getD_cons_zero])
          | ((with_reducible show wpX _ _ _ _ _ _ (Oper.mk _ (Op.call _) _ _ _ _ :: _) _); refine x_callf (f := 115) (args := #[.int .i64 lb, .int .i64 0, .int .i64 (O - 1)]) rfl rfl Try.func115 rfl (by kernel_rfl) ?_ ?_ ?_; (focus (simp [Act.eval]; done)); (focus (intro w1 hw1; exact (by rw [HF2.out]; exact calls_same (K.out w1)))); rintro u w3 e3 e4 hu; simp only [HF2.out] at hu; subst hu; simp only [Act.put, ev_tmp, List.setIfInBounds_toArray, List.set_cons_succ, List.set_cons_zero, List.getD_cons_succ, List.getD_cons_zero])
          | (refine x_run rfl fun K hK w1 hw1 => ?_; go_simp; refine hK _ ?_; clear hK K  hw1 w1))
        refine x_nil ?_
        go_wp2
        go_ret
        exact ⟨by rw [← hG.out]; rfl, hWD.trans hwf⟩
      · rw [hin] at K hst
        have Hst := hid (show lblGo O l (i + 1) = G by rw [← hst, Bool.true_and])
        clear hst hin
        obtain ⟨F2, hF⟩ : ∃ F : Option Tmp → World → Value → Prop, F = fun d _ u => match d with | some 45 => u = .int .i64 O | _ => u = .bool true := ⟨_, rfl⟩
        have HF2 := hid hF
        clear hF
        go_wp2
        refine wp_region_xall (F := F2) (by kernel_rfl) (by kernel_rfl) (by kernel_rfl) ?_
        intro wf hwf
        repeat (first
          | (refine x_skip rfl ?_; simp only [Act.put, ev_tmp, List.setIfInBounds_toArray, List.set_cons_succ, List.set_cons_zero, List.getD_cons_succ, List.getD_cons_zero])
          | (refine x_mv rfl rfl rfl ?_; simp only [Act.put, ev_tmp, List.setIfInBounds_toArray, List.set_cons_succ, List.set_cons_zero, List.getD_cons_succ, List.getD_cons_zero])
          | (refine x_as rfl rfl rfl ?_; simp only [Act.put, ev_tmp, List.setIfInBounds_toArray, List.set_cons_succ, List.set_cons_zero, List.getD_cons_succ, List.getD_cons_zero])
          | ((with_reducible show wpX _ _ _ _ _ _ (Oper.mk _ (Op.indexAddr _ _ _) _ _ _ _ :: Oper.mk _ (Op.load _ _) _ _ _ _ :: _) _); refine x_ldI rfl rfl (fun _ => rfl) rfl (fun _ => rfl) rfl rfl hlD HN.out (by omega) (by omega) ?_; rw [Int.toNat_natCast, Hlb.out]; simp only [Act.put, ev_tmp, List.setIfInBounds_toArray, List.set_cons_succ, List.set_cons_zero, List.getD_cons_succ, List.getD_cons_zero])
          | ((with_reducible show wpX _ _ _ _ _ _ (Oper.mk _ (Op.call _) _ _ _ _ :: _) _); refine x_callf (f := 96) (args := #[.pointer (some ⟨bl, 0, none⟩)]) rfl rfl Try.func96 rfl (by kernel_rfl) ?_ ?_ ?_; (focus (simp [Act.eval]; done)); (focus (intro w1 hw1; exact (by rw [HF2.out]; exact (E1.out w1 (hWD.trans hw1)).mono fun e w3 h => ⟨_, h.1, h.2, rfl⟩))); rintro u w3 e3 e4 hu; simp only [HF2.out] at hu; subst hu; simp only [Act.put, ev_tmp, List.setIfInBounds_toArray, List.set_cons_succ, List.set_cons_zero, List.getD_cons_succ, List.getD_cons_zero])
          | ((with_reducible show wpX _ _ _ _ _ _ (Oper.mk _ (Op.call _) _ _ _ _ :: _) _); refine x_callf (f := 115) (args := #[.int .i64 lb, .int .i64 0, .int .i64 (O - 1)]) rfl rfl Try.func115 rfl (by kernel_rfl) ?_ ?_ ?_; (focus (simp [Act.eval]; done)); (focus (intro w1 hw1; exact (by rw [HF2.out]; exact calls_same (K.out w1)))); rintro u w3 e3 e4 hu; simp only [HF2.out] at hu; subst hu; simp only [Act.put, ev_tmp, List.setIfInBounds_toArray, List.set_cons_succ, List.set_cons_zero, List.getD_cons_succ, List.getD_cons_zero])
          | (refine x_run rfl fun K hK w1 hw1 => ?_; go_simp; refine hK _ ?_; clear hK K  hw1 w1))
        refine x_nil ?_
        go_wp2
        go_roundw
        case rel => exact ⟨i + 1, by omega, by go_num, Hst, hWD.trans hwf⟩
        case measure => simp [intOf]; omega
    · obtain rfl : i = n2 := by omega
      have hst := HI.out
      rw [lblGo_end (by rw [HN.out]; exact Nat.le_refl _)] at hst
      subst hst
      go_wp2
      go_ret
      exact ⟨rfl, he⟩
/-- The greatest columns of the first rows. -/
def grtL (xs : List Nat) (C r : Nat) : List Int := (List.range r).map fun i => ((gi (rowT xs C i) C : Nat) : Int)
theorem grtL_len (xs : List Nat) (C r : Nat) : (grtL xs C r).length = r := by simp [grtL]
theorem grtL_succ (xs : List Nat) (C r : Nat) : grtL xs C (r + 1) = grtL xs C r ++ [((gi (rowT xs C r) C : Nat) : Int)] := by simp [grtL, List.range_succ]
theorem grtL_at {xs : List Nat} {C r i : Nat} (h : i < r) : (grtL xs C r).getD i 0 = ((gi (rowT xs C i) C : Nat) : Int) := by
  rw [List.getD_eq_getElem?_getD]; simp [grtL, h]
theorem rowT_get {xs : List Nat} {C R r k : Nat} (hx : xs.length = R * C) (hr : r < R) (hk : k < C) : (rowT xs C r).getD k 0 = xs.getD (r * C + k) 0 := by
  unfold rowT
  have h1 : (r + 1) * C ≤ R * C := row_le hr
  rw [List.getD_eq_getElem?_getD, List.getElem?_drop, List.getElem?_take, if_pos (by rw [Nat.add_mul]; omega), ← List.getD_eq_getElem?_getD]
/-- A list of integers of one's own, as a result. -/
def RetI (w : World) (o : List Int) (e : Ending) (w' : World) : Prop := ∃ q c, e = .returned (.slice q o.length c) ∧ w'.ownsRow w.heap.size 2 1 (.slice q o.length c) o.length (o.map (.int .i64)) ∧ Ext w w'
set_option maxRecDepth 100000 in
set_option maxHeartbeats 4000000 in
theorem GreatestColumns_any (R C n c : Nat) (q : Option Addr) (us : List Value) (xs : List Nat) (w : World) (hR : 1 ≤ R ∧ R ≤ 16) (hC : 1 ≤ C ∧ C ≤ 16) (hx : xs.length = R * C) (hn : xs.length = n) (hnc : n ≤ c) (hc : c ≤ maxLen) (hp : Cs w q us) (hf : F32s us xs) :
    Calls Try.prog 150 #[.agg #[.int .i64 R, .int .i64 C, .slice q n c]] w fun e w' => ∃ q' c', e = .returned (.tuple #[.slice q' R c', .bool true]) ∧ w'.ownsRow w.heap.size 2 1 (.slice q' R c') R ((grtL xs C R).map (.int .i64)) ∧ Ext w w' := by
  obtain ⟨hR0, hR1⟩ := hR
  obtain ⟨hC0, hC1⟩ := hC
  have hle : n ≤ 256 := by have := Nat.mul_le_mul hR1 hC1; omega
  have hT : tenB R C n = true := by
    unfold tenB
    simp only [Bool.and_eq_true, inB_true, decide_eq_true_eq]
    refine ⟨⟨⟨by omega, by omega⟩, by omega, by omega⟩, ?_⟩
    rw [← hn, hx]; push_cast; rfl
  obtain ⟨W0, hW0⟩ : ∃ W0, W0 = w.alloc (.cells #[.int .i64 R, .int .i64 C, .slice q n c] 45) := ⟨_, rfl⟩
  have E0 : Ext w W0 := by subst hW0; exact Ext.alloc _ _
  have b0 : W0.heap[w.heap.size]? = some (.cells #[.int .i64 R, .int .i64 C, .slice q n c] 45) := by subst hW0; exact heap_alloc_new _ _
  have t0 : W0.cell? ⟨w.heap.size, 0, none⟩ = some (.int .i64 R) := cell_of_heap b0 rfl
  have t1 : W0.cell? ⟨w.heap.size, 1, none⟩ = some (.int .i64 C) := cell_of_heap b0 rfl
  have t2 : W0.cell? ⟨w.heap.size, 2, none⟩ = some (.slice q n c) := cell_of_heap b0 rfl
  have B := hid (fun W (h : Ext W0 W) => l02Is_any (sp := none) w.heap.size 0 R C q n c W (h.cell t0) (h.cell t1) (h.cell t2) (by unfold maxLen; omega))
  rw [hT] at B
  have HN := hid hn
  have Hrow := hid (fun r k (hr : r < R) (hk : k < C) => rowT_get (xs := xs) (k := k) hx hr hk)
  have HX := hid hx
  clear hT hn b0 hx
  go_enter Try.func150, Try.ntmps150
  go_wp2_with fail
  rw [← hW0]
  clear hW0
  refine (B.out _ (Ext.refl _)).mono ?_
  rintro e w1 ⟨rfl, e1⟩
  have hst : (w1.alloc (.cells #[] 2)).ownsRow w1.heap.size 2 1 (.slice (some ⟨w1.heap.size, 0, none⟩) 0 0) 0 [] := World.ownsRow_made w1 #[] 0 (Nat.le_refl _) (by decide) rfl
  have e2 := e1.trans (Ext.alloc w1 (.cells #[] 2))
  have hsz1 := e1.size
  clear B
  go_wp2_with fail
  generalize hW2 : w1.alloc (.cells #[] 2) = W2 at *
  go_loopw [4, 5] (fun ov rv wr => ∃ (r : Nat) (q6 : Option Addr) (c6 : Nat), r ≤ R ∧ rv = .int .i64 r ∧ ov = .slice q6 r c6 ∧ wr.ownsRow w1.heap.size 2 1 (.slice q6 r c6) r ((grtL xs C r).map (.int .i64)) ∧ Ext W0 wr ∧ w1.heap.size ≤ wr.heap.size) (fun _ rv _ => R - (intOf rv).toNat)
  case atStart => exact ⟨0, _, _, by omega, rfl, rfl, hst, e2, by rw [← hW2]; simp⟩
  case round =>
    clear hst e2 hW2
    obtain ⟨r, q6, c6, hr, rfl, rfl, own6, he, hsz⟩ := hrel
    have m0 := he.cell t0; have m1 := he.cell t1; have m2 := he.cell t2
    by_cases hlt : r < R
    · have hp6 := hp.ext (E0.trans he)
      obtain ⟨k1, k2, k3, k4⟩ := cell_le (C := C) hlt hR1 hC1
      have hnn := HN.out
      have hxx := HX.out
      have hrc : (r + 1) * C = r * C + C := by rw [Nat.add_mul]; omega
      have k5 : r * C + C ≤ n := by omega
      have qm : IntKind.i64.wrap ((r : Int) * (C : Int)) = ((r * C : Nat) : Int) := by rw [← Int.natCast_mul]; exact wrap_in _ (by omega) (by omega)
      have Hro := hid (fun k hk => Hrow.out r k hlt hk)
      generalize r * C = rC at *
      have HG0 := hid (fun j => show gi (rowT xs C r) (j + 1) = if fgt .f32 ((rowT xs C r).getD j 0) ((rowT xs C r).getD (gi (rowT xs C r) j) 0) then j else gi (rowT xs C r) j from rfl)
      have HG1 := hid (fun j (hj : 0 < j) => gi_lt (rowT xs C r) hj)
      have HG2 := hid (gi_one (rowT xs C r))
      have Hs := hid (grtL_succ xs C r)
      generalize gi (rowT xs C r) = g at *
      generalize rowT xs C r = row at *
      clear k1 k2 k3 k4 hnn hxx hrc
      have e17 := he
      go_wp2_with fail
      obtain ⟨wo, rfl⟩ : ∃ wo : World, wo = wr := ⟨_, rfl⟩
      go_loopw [6, 7] (fun gv kv wr => ∃ (k : Nat), 1 ≤ k ∧ k ≤ C ∧ kv = .int .i64 k ∧ gv = .int .i64 (g k) ∧ Ext wo wr) (fun _ kv _ => C - (intOf kv).toNat)
      case atStart => exact ⟨1, by omega, hC0, rfl, by rw [HG2.out]; rfl, Ext.refl _⟩
      case round =>
        obtain ⟨k, hk1, hk, rfl, rfl, he7⟩ := hrel
        have y0 := he7.cell m0; have y1 := he7.cell m1; have y2 := he7.cell m2
        by_cases hlk : k < C
        · have hg : g k < C := by have := HG1.out k (by omega); omega
          have hs := HG0.out k
          rw [Hro.out k hlk, Hro.out (g k) hg] at hs
          have HS := hid hs
          clear hs
          generalize g k = gk at *
          have hD := Ext.drew wr
          have d0 := hD.cell y0; have d1 := hD.cell y1; have d2 := hD.cell y2
          have kk1 := hp6.ext (he7.trans hD)
          have qa : IntKind.i64.wrap ((rC : Int) + (k : Int)) = ((rC + k : Nat) : Int) := by rw [← Int.natCast_add]; exact wrap_in _ (by omega) (by omega)
          have qb : IntKind.i64.wrap ((rC : Int) + (gk : Int)) = ((rC + gk : Nat) : Int) := by rw [← Int.natCast_add]; exact wrap_in _ (by omega) (by omega)
          have la : rC + k < n := by omega
          have lb : rC + gk < n := by omega
          generalize rC + k = A at *
          generalize rC + gk = Bq at *
          go_wp2
          refine wp_region_xall (F := fun _ _ _ => False) (by kernel_rfl) (by kernel_rfl) (by kernel_rfl) ?_
          intro wf hwf
          repeat (first
            | (refine x_skip rfl ?_; simp only [Act.put, ev_tmp, List.setIfInBounds_toArray, List.set_cons_succ, List.set_cons_zero, List.getD_cons_succ, List.getD_cons_zero])
            | (refine x_mv rfl rfl rfl ?_; simp only [Act.put, ev_tmp, List.setIfInBounds_toArray, List.set_cons_succ, List.set_cons_zero, List.getD_cons_succ, List.getD_cons_zero])
            | (refine x_as rfl rfl rfl ?_; simp only [Act.put, ev_tmp, List.setIfInBounds_toArray, List.set_cons_succ, List.set_cons_zero, List.getD_cons_succ, List.getD_cons_zero])
            | ((with_reducible show wpX _ _ _ _ _ _ (Oper.mk _ (Op.indexAddr _ _ _) _ _ _ _ :: Oper.mk _ (Op.load _ _) _ _ _ _ :: _) _); refine x_ldF rfl rfl (fun _ => rfl) rfl (fun _ => rfl) rfl rfl kk1 hf HN.out (by omega) (by omega) ?_; rw [Int.toNat_natCast]; first | (have zz := G1; intro r2 g2; have G2 := hid g2; clear g2 zz) | (intro r1 g1; have G1 := hid g1; clear g1); simp only [Act.put, ev_tmp, List.setIfInBounds_toArray, List.set_cons_succ, List.set_cons_zero, List.getD_cons_succ, List.getD_cons_zero])
            | (refine x_run rfl fun K hK w1 hw1 => ?_; have k0 := hw1.cell (d0); have k1 := hw1.cell (d1); have k2 := hw1.cell (d2); go_simp; refine hK _ ?_; clear hK K k0 k1 k2 hw1 w1))
          refine x_nil ?_
          have hW := (he7.trans hD).trans hwf
          go_wp2
          all_goals go_roundw
          all_goals first
            | (case rel =>
                refine ⟨k + 1, by omega, by omega, by go_num, ?_, hW⟩
                rename_i hc
                have q1 := G1.out
                have q2 := G2.out
                have hh := gt_eq r1 r2
                rw [q1, q2] at hh
                rw [HS.out]
                first
                  | (rw [hc] at hh; rw [← hh]; rfl)
                  | (rw [decide_eq_true hc] at hh; rw [← hh]; rfl))
            | (case measure => simp [intOf]; omega)
        · obtain rfl : k = C := by omega
          have own7 := own_ext own6 he7
          have hsz7 := he7.size
          clear HG0 HG1 HG2 own6
          go_wp2_with ((with_reducible show wpList _ _ _ (Oper.mk _ (Op.buildSlice _ _ _) _ _ _ _ :: Oper.mk _ (Op.call _) _ _ _ _ :: _) _ _); refine wl_app1b (u := .int .i64 (g k)) rfl rfl rfl rfl rfl (by rfl) (by rfl) (fun _ => rfl) (fun _ => rfl) own7 (by unfold maxLen; omega) (by omega) (by omega) ?_; intro g9 c9 w9 own9 gr9 hw9)
          go_roundw
          case rel =>
            refine ⟨r + 1, _, _, by omega, by go_num, rfl, ?_, (he.trans he7).grown gr9 (fun kk hk9 => by have := own_le own7 kk hk9; omega), by have := gr9.size; omega⟩
            rw [Hs.out, List.map_append]
            exact own9
          case measure => simp [intOf]; omega
    · obtain rfl : r = R := by omega
      go_wp2
      go_ret2
      exact ⟨q6, c6, rfl, own_base own6 (by have := E0.size; omega), E0.trans he⟩
end Go.Proofs.Ytangnigplachdaa
