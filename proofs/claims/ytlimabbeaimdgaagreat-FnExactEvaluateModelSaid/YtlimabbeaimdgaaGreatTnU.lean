/- The tape of a model: what fits. -/
import Derived.Test.YtlimabbeaimdgaaGreatZ22Evalua
set_option linter.unusedSimpArgs false
set_option linter.unusedVariables false
namespace Go.Proofs.YtlimabbeaimdgaaGreat
open Go.RowKit
set_option maxRecDepth 100000 in
set_option maxHeartbeats 4000000 in
theorem modelTape_yes (p q q2 : Option Addr) (n c nx cx ny cy : Nat) (r k r2 k2 : Int) (css : List (List Value)) (L : List shLayer.T) (xs ys : List Nat) (us vs : List Value) (w : World) (hL : Lays w p n css L) (hnx : nx ≤ maxLen) (hny : ny ≤ maxLen) (hh : headB L r k nx r2 k2 ny = true) (hxl : xs.length = nx) (hyl : ys.length = ny) (hnx2 : nx ≤ 1048576) (hny2 : ny ≤ 1048576) (hcx : nx ≤ cx) (hcy : ny ≤ cy) (hqx : Cs w q us) (hfx : F32s us xs) (hqy : Cs w q2 vs) (hfy : F32s vs ys) :
 Calls Tryz.prog 35 #[.agg #[.slice p n c], .agg #[.int .i64 r, .int .i64 k, .slice q nx cx], .agg #[.int .i64 r2, .int .i64 k2, .slice q2 ny cy]] w fun e w' => MtOut w L (r, k, xs, ()) (r2, k2, ys, ()) (fop .quo .f32 oneB32 (cn .f32 (floatOfInt .f32 (ny : Int)))) e w' ∧ Ext w w' := by
 have hLl := hL.len
 obtain ⟨W0, hW0⟩ : ∃ W0, W0 = ((w.alloc (.cells #[.slice p n c] 35)).alloc (.cells #[.int .i64 r, .int .i64 k, .slice q nx cx] 37)).alloc (.cells #[.int .i64 r2, .int .i64 k2, .slice q2 ny cy] 37) := ⟨_, rfl⟩
 obtain ⟨E0, s0, b0, b1, b2⟩ := box3 hW0
 have b0 : HB W0 w.heap.size #[.slice p n c] 35 := b0
 have b1 : HB W0 (w.heap.size + 1) #[.int .i64 r, .int .i64 k, .slice q nx cx] 37 := b1
 have b2 : HB W0 (w.heap.size + 1 + 1) #[.int .i64 r2, .int .i64 k2, .slice q2 ny cy] 37 := b2
 have A1 := hid (fun W (h : Ext W0 W) => ValidModel_any p n c L css W hLl hL.le (hL.cs.ext (E0.trans h)) (hL.all.imp fun _ _ => Rep.ext (E0.trans h)) hL.size hL.cnt)
 have A2 := hid (fun W => ValidTensor_any r k q nx cx W hnx)
 have A3 := hid (fun W => ValidTensor_any r2 k2 q2 ny cy W hny)
 have A4 := hid (fun W (h : Ext W0 W) h1 => in_any p n c css L W (hL.ext (E0.trans h)) h1)
 have A5 := hid (fun W (h : Ext W0 W) h1 => out_any p n c css L W (hL.ext (E0.trans h)) h1)
 have hpos : modB L = true → 1 ≤ n := fun h => by rw [← hLl]; exact (modOk h).pos
 unfold headB at hh
 have HM := hid (show ModOk L by refine modOk ?_; simp only [Bool.and_eq_true] at hh; exact hh.1)
 simp only [Bool.and_eq_true, decide_eq_true_eq] at hh
 obtain ⟨g1, g2, g3, g4, g5, g6⟩ := hh
 have h1n := hpos g1
 clear hpos
 have e4 : (r != r2) = false := by simp [g4]
 have e5 : (k != inL L 0) = false := by simp [g5]
 have e6 : (k2 != outL L) = false := by simp [g6]
 rw [g1] at A1; rw [g2] at A2; rw [g3] at A3
 generalize hi : inL L 0 = I at *
 generalize ho : outL L = O at *
 have HLl := hid hLl
 clear hi ho hLl g1 g2 g3 g4 g5 g6
 have HHx := hid (And.intro hxl (And.intro hcx (And.intro hqx hfx))); have HHy := hid (And.intro hyl (And.intro hcy (And.intro hqy hfy)))
 have HLL := hid hL
 clear hxl hyl hcx hcy hqx hfx hqy hfy hL
 obtain ⟨F, hF⟩ : ∃ F : Option Tmp → World → Value → Prop, F = fun d _ u => match d with | some 22 => u = .bool true | some 26 => u = .bool true | some 31 => u = .bool true | some 45 => u = .int .i64 I | _ => u = .int .i64 O := ⟨_, rfl⟩
 have HF := hid hF
 clear hF
 go_enter Tryz.func35, Tryz.ntmps35
 go_wp2
 rw [← hW0]
 clear hW0
 have eD := Ext.drew W0
 have d0 := (b0.ext eD).cell 0 rfl
 have d1 := (b1.ext eD).cell 0 rfl; have d2 := (b1.ext eD).cell 1 rfl; have d3 := (b1.ext eD).cell 2 rfl
 have d4 := (b2.ext eD).cell 0 rfl; have d5 := (b2.ext eD).cell 1 rfl; have d6 := (b2.ext eD).cell 2 rfl
 refine wp_region_xall (F := F) (by kernel_rfl) (by kernel_rfl) (by kernel_rfl) ?_
 intro wf hwf
 repeat (first
  | (refine x_skip rfl ?_; simp only [Act.put, ev_tmp, pu1, pu2, pu3, pu4, pu5])
  | (refine x_mv rfl rfl rfl ?_; simp only [Act.put, ev_tmp, pu1, pu2, pu3, pu4, pu5])
  | (refine x_as rfl rfl rfl ?_; simp only [Act.put, ev_tmp, pu1, pu2, pu3, pu4, pu5])
  | ((with_reducible show wpX _ _ _ _ _ _ (Oper.mk _ (Op.call _) _ _ _ _ :: _) _); refine x_callf (f := 56) (args := #[.agg #[.slice p n c]]) rfl rfl Tryz.func56 rfl (by kernel_rfl) ?_ ?_ ?_; (focus (simp [Act.eval]; done)); (focus (intro w1 hw1; exact (by rw [HF.out]; exact (A1.out w1 (eD.trans hw1)).mono fun e w3 h => ⟨_, h.1, h.2, rfl⟩))); rintro u w3 e3 e4 hu; simp only [HF.out] at hu; subst hu; simp only [Act.put, ev_tmp, pu1, pu2, pu3, pu4, pu5])
  | ((with_reducible show wpX _ _ _ _ _ _ (Oper.mk _ (Op.call _) _ _ _ _ :: _) _); refine x_callf (f := 57) (args := #[.agg #[.int .i64 r, .int .i64 k, .slice q nx cx]]) rfl rfl Tryz.func57 rfl (by kernel_rfl) ?_ ?_ ?_; (focus (simp [Act.eval]; done)); (focus (intro w1 hw1; exact (by rw [HF.out]; exact (A2.out w1).mono fun e w3 h => ⟨_, h.1, h.2, rfl⟩))); rintro u w3 e3 e4 hu; simp only [HF.out] at hu; subst hu; simp only [Act.put, ev_tmp, pu1, pu2, pu3, pu4, pu5])
  | ((with_reducible show wpX _ _ _ _ _ _ (Oper.mk _ (Op.call _) _ _ _ _ :: _) _); refine x_callf (f := 57) (args := #[.agg #[.int .i64 r2, .int .i64 k2, .slice q2 ny cy]]) rfl rfl Tryz.func57 rfl (by kernel_rfl) ?_ ?_ ?_; (focus (simp [Act.eval]; done)); (focus (intro w1 hw1; exact (by rw [HF.out]; exact (A3.out w1).mono fun e w3 h => ⟨_, h.1, h.2, rfl⟩))); rintro u w3 e3 e4 hu; simp only [HF.out] at hu; subst hu; simp only [Act.put, ev_tmp, pu1, pu2, pu3, pu4, pu5])
  | ((with_reducible show wpX _ _ _ _ _ _ (Oper.mk _ (Op.call _) _ _ _ _ :: _) _); refine x_callf (f := 58) (args := #[.agg #[.slice p n c]]) rfl rfl Tryz.func58 rfl (by kernel_rfl) ?_ ?_ ?_; (focus (simp [Act.eval]; done)); (focus (intro w1 hw1; exact (by rw [HF.out]; exact (A4.out w1 (eD.trans hw1) h1n).mono fun e w3 h => ⟨_, h.1, h.2, rfl⟩))); rintro u w3 e3 e4 hu; simp only [HF.out] at hu; subst hu; simp only [Act.put, ev_tmp, pu1, pu2, pu3, pu4, pu5])
  | ((with_reducible show wpX _ _ _ _ _ _ (Oper.mk _ (Op.call _) _ _ _ _ :: _) _); refine x_callf (f := 59) (args := #[.agg #[.slice p n c]]) rfl rfl Tryz.func59 rfl (by kernel_rfl) ?_ ?_ ?_; (focus (simp [Act.eval]; done)); (focus (intro w1 hw1; exact (by rw [HF.out]; exact (A5.out w1 (eD.trans hw1) h1n).mono fun e w3 h => ⟨_, h.1, h.2, rfl⟩))); rintro u w3 e3 e4 hu; simp only [HF.out] at hu; subst hu; simp only [Act.put, ev_tmp, pu1, pu2, pu3, pu4, pu5])
  | (refine x_run rfl fun K hK w1 hw1 => ?_; have k0 := hw1.cell (d0); have k1 := hw1.cell (d1); have k2 := hw1.cell (d2); have k3 := hw1.cell (d3); have k4 := hw1.cell (d4); have k5 := hw1.cell (d5); have k6 := hw1.cell (d6); go_simp; refine hK _ ?_; clear hK K k0 k1 k2 k3 k4 k5 k6 hw1 w1))
 refine x_nil ?_
 have E1 := (E0.trans eD).trans hwf
 have x0 := b0.ext (eD.trans hwf)
 have x1 := b1.ext (eD.trans hwf)
 have x2 := b2.ext (eD.trans hwf)
 have hs1 := E1.size
 have hs0 := (eD.trans hwf).size
 clear d0 d1 d2 d3 d4 d5 d6 hwf eD b0 b1 b2 HF
 obtain ⟨V4, hV4⟩ : ∃ V4, V4 = (((wf.alloc (.cells #[] 79)).alloc (.cells #[.slice (some ⟨wf.heap.size, 0, none⟩) 0 0] 70)).alloc (.cells #[] 2)).alloc (.cells #[.nilFunc] 105) := ⟨_, rfl⟩
 obtain ⟨E2, h4, hm5⟩ := mt_start w.heap.size 60 hs1 hV4
 have HX := hid HHx.out.1
 have HY := hid HHy.out.1
 go_wp2_with ((with_reducible show wpList _ _ _ (Oper.mk _ (Op.store _ _ _) _ _ _ _ :: _) _ _); rw [← hV4]; refine wl_stHB (j := 0) rfl rfl h4 rfl rfl rfl rfl ?_; intro w5 b5 ch5; have M5 := hm5 w5 b5 ch5; have E5 : Ext w w5 := (E1.trans E2).chg ch5 (fun b hb => by omega); have p5 := (x0.ext E2).chg ch5 (by omega); have q5 := (x1.ext E2).chg ch5 (by omega); have r5 := (x2.ext E2).chg ch5 (by omega); have kq0 := q5.cell 0 rfl; have kq1 := q5.cell 1 rfl; have kq2 := q5.cell 2 rfl)
 refine (inputF_n w.heap.size (wf.heap.size + 1) (wf.heap.size + 1 + 1 + 1) _ _ [] [] 0 _ _ r k q nx cx us xs w5 M5 (by have := (E5).size; omega) rfl (by omega) HX.out hnx2 HHx.out.2.1 (HHx.out.2.2.1.ext E5) HHx.out.2.2.2).mono ?_
 rintro e w6 ⟨rfl, v6, cs6, bs6, o6, m6, ho6, hl6, hm6, M6, ch6⟩
 have E6 := M5.extOf E5 (Nat.le_refl _) (by omega) ch6
 have p6 := M5.hbOf ch6 p5 (by omega) (by decide)
 have r6 := M5.hbOf ch6 r5 (by omega) (by decide)
 have kr0 := r6.cell 0 rfl
 have kr1 := r6.cell 1 rfl
 have kr2 := r6.cell 2 rfl
 go_wp2_with (fail)
 refine (inputF_n w.heap.size (wf.heap.size + 1) (wf.heap.size + 1 + 1 + 1) _ _ o6 [] m6 _ _ r2 k2 q2 ny cy vs ys w6 M6 (by have := (E6).size; omega) hl6.out (by have := hm6.out; omega) HY.out hny2 HHy.out.2.1 (HHy.out.2.2.1.ext E6) HHy.out.2.2.2).mono ?_
 rintro e w7 ⟨rfl, v7, cs7, bs7, o7, m7, ho7, hl7, hm7, M7, ch7⟩
 have E7 := M6.extOf E6 (Nat.le_refl _) (by omega) ch7
 have p7 := M6.hbOf ch7 p6 (by omega) (by decide)
 have r7 := M6.hbOf ch7 r6 (by omega) (by decide)
 have kp0 := p7.cell 0 rfl
 go_wp2_with fail
 have MM : MtF w7 w.heap.size (wf.heap.size + 1) (wf.heap.size + 1 + 1 + 1) 60 v7 (.slice (some ⟨wf.heap.size + 1 + 1, 0, none⟩) 0 0) ((mtTo L (r, k, xs, ()) (r2, k2, ys, ()) 0).1, (mtTo L (r, k, xs, ()) (r2, k2, ys, ()) 0).2.1) cs7 bs7 := by
  have h := M7
  rw [ho7.out, ho6.out] at h
  exact h
 clear M7 M6 M5 ch7 ch6 ch5 hm5 h4 E2 x0 x1 x2 p5 p6 q5 r5 r6 E5 E6 kq0 kq1 kq2 kr0 kr1 kr2 hV4 ho7 ho6 hl7 hl6
 go_loopw [10, 13, 68] (fun wv cv iv wr => ∃ (i : Nat) (v : Value) (css1 : List (List Value)) (bss1 : List (List Nat)), i ≤ n ∧ iv = .int .i64 (i : Int) ∧ cv = .int .i64 ((mtTo L (r, k, xs, ()) (r2, k2, ys, ()) i).2.2 : Nat) ∧ Hid (tapeB (L.take i) = true) ∧ MtF wr w.heap.size (wf.heap.size + 1) (wf.heap.size + 1 + 1 + 1) 60 v wv ((mtTo L (r, k, xs, ()) (r2, k2, ys, ()) i).1, (mtTo L (r, k, xs, ()) (r2, k2, ys, ()) i).2.1) css1 bss1 ∧ HB wr (w.heap.size + 1 + 1) #[.int .i64 r2, .int .i64 k2, .slice q2 ny cy] 37 ∧ Ext w wr) (fun _ _ iv _ => n - (intOf iv).toNat)
 case atStart => exact ⟨0, v7, cs7, bs7, by omega, rfl, rfl, rfl, MM, r7, E7⟩
 case round =>
  clear MM r7 E7 p7 kp0
  obtain ⟨i, v, cs, bs, hi, rfl, rfl, HT, M, Y, he⟩ := hrel
  have hlen := mtTo_len L (r, k, xs, ()) (r2, k2, ys, ()) i
  have hwl := mtTo_wlen L (r, k, xs, ()) (r2, k2, ys, ()) i
  have hn6 : n ≤ 6 := by have := HM.out.few; have := HLl.out; omega
  by_cases hlt : i < n
  · have hil : i < L.length := by rw [HLl.out]; exact hlt
    obtain ⟨ci, hci, ri⟩ := HLL.out.all.get i L[i] (by simp)
    have l1 := HLL.out.cs; have l3 := HLL.out.size; have l5 := hid HLL.out.cnt
    have hs1 : p.isSome = true := l1.some_of l3 (by decide) (show 0 < css.length by rw [l5.out]; omega)
    have hp := l1.ext he
    obtain ⟨hw1, hw2⟩ := (small_of HM.out).2 L[i] (by simp)
    have HLay := hid (HM.out.lay i hil)
    obtain ⟨pw, cw, pb, cb, uw, ub, rfl, ⟨x1, x2, x3⟩, ⟨y1, y2, y3⟩⟩ := lay_full ri
    have HD := hid (show L[i]? = some L[i] by simp)
    have HMT := hid (show mtTo L (r, k, xs, ()) (r2, k2, ys, ()) (i + 1) = mtStep L[i] (mtTo L (r, k, xs, ()) (r2, k2, ys, ()) i) by simp [mtTo, List.getD_eq_getElem?_getD, hil])
    generalize mtTo L (r, k, xs, ()) (r2, k2, ys, ()) i = s at *
    obtain ⟨ops, ws, j⟩ := s
    generalize L[i] = d at *
    obtain ⟨d1, d2, d3, W, Bs, du⟩ := d
    dsimp only at hci HD HMT hlen hwl M hw1 hw2 HLay x1 x2 x3 y1 y2 y3
    obtain ⟨m, hm⟩ : ∃ m, ops.length = m := ⟨_, rfl⟩
    rw [hm] at hlen
    have hm32 : m ≤ 32 := by omega
    have hjm : j < m := hlen.2.2
    have HHW := hid (And.intro x1 (And.intro x2 (And.intro x3 (And.intro y1 (And.intro y2 y3)))))
    have Hm := hid hm
    generalize hlw0 : W.length = lw at *
    generalize hlb0 : Bs.length = lb at *
    have Hlw := hid hlw0
    have Hlb := hid hlb0
    have HWs := hid (show True from trivial)
    clear hlw0 hlb0 x1 x2 x3 y1 y2 y3 ri hm hlen
    have hrs := M.st.box.lt
    have hrs2 := Y.lt
    have hrs3 := M.st.fn.lt
    have b6 := HB.new wr #[.int .i64 d1, .int .i64 d2, .int .i64 d3, .slice pw lw cw, .slice pb lb cb] 100
    obtain ⟨w6, hW6⟩ : ∃ w6, w6 = wr.alloc (.cells #[.int .i64 d1, .int .i64 d2, .int .i64 d3, .slice pw lw cw, .slice pb lb cb] 100) := ⟨_, rfl⟩
    rw [← hW6] at b6
    have e6 : Ext wr w6 := by rw [hW6]; exact Ext.alloc _ _
    have M6 := M.ext e6
    have E6 := he.trans e6
    have Y6 := Y.ext e6
    have f6 := M6.st.fn.cell 0 rfl
    by_cases h0 : d1 = 0
    · subst h0
      go_wp2_with ((with_reducible show wpList _ _ _ (Oper.mk _ (Op.indexAddr _ _ _) _ _ _ _ :: Oper.mk _ (Op.load _ _) _ _ _ _ :: _) _ _); refine wl_idxloadE (s := shLayer) (j := i) rfl rfl rfl rfl (fun _ => rfl) rfl rfl rfl hp l3 l5.out hlt hs1 hci ?_; simp only [ofCs, Sh.agg, if_true])
      rw [← hW6]
      refine (inputF_n w.heap.size (wf.heap.size + 1) (wf.heap.size + 1 + 1 + 1) _ _ ops ws m _ _ d3 d2 pw lw cw uw W w6 M6 (by have := (E6).size; omega) Hm.out (by omega) Hlw.out (by omega) HHW.out.2.2.1 (HHW.out.1.ext E6) HHW.out.2.1).mono ?_
      rintro e w7 ⟨rfl, v7, cs7, bs7, o7, m7, ho7, hl7, hm7, M7, ch7⟩
      have E7 := M6.extOf E6 (Nat.le_refl _) (by omega) ch7
      have Y7 := M6.hbOf ch7 Y6 (by omega) (by decide)
      have b7 := M6.hbOf ch7 b6 (by omega) (by decide)
      have f7 := M7.st.fn.cell 0 rfl
      have k4 := b7.cell 4 rfl
      go_wp2_with fail
      refine (rowTensor_any pb lb cb ub Bs w7 Hlb.out (by omega) HHW.out.2.2.2.2.2 (HHW.out.2.2.2.1.ext E7) HHW.out.2.2.2.2.1).mono ?_
      rintro e w8 ⟨q8, k8, us8, rfl, own8, g8, e8⟩
      rw [Hlb.out] at own8 ⊢
      have E8 := E7.trans e8
      have M8 := M7.ext e8
      have Y8 := Y7.ext e8
      obtain ⟨hc8, hk8⟩ := own_csQ own8
      go_wp2_with (fail)
      refine (inputF_n w.heap.size (wf.heap.size + 1) (wf.heap.size + 1 + 1 + 1) _ _ o7 ws m7 _ _ 1 lb q8 lb k8 us8 Bs w8 M8 (by have := (E8).size; omega) hl7.out (by have := hm7.out; omega) Hlb.out (by omega) hk8 hc8 g8).mono ?_
      rintro e w9 ⟨rfl, v9, cs9, bs9, o9, m9, ho9, hl9, hm9, M9, ch9⟩
      have E9 := M8.extOf E8 (Nat.le_refl _) (by omega) ch9
      have Y9 := M8.hbOf ch9 Y8 (by omega) (by decide)
      have f9 := M9.st.fn.cell 0 rfl
      obtain ⟨ws1, hws1⟩ : ∃ ws1, ws1 = ws ++ [(m : Int), (m7 : Int)] := ⟨_, rfl⟩
      have Hws := hid hws1; clear hws1
      have eA9 := Ext.alloc w9 (.cells #[.int .i64 (m : Int), .int .i64 (m7 : Int)] 2)
      go_wp2_with ((with_reducible show wpList _ _ _ (Oper.mk _ (Op.call _) _ _ _ _ :: _) _ _); refine wl_appW (B := w.heap.size) (n := ws.length) (m := 2) rfl rfl rfl rfl (own_ext M9.wr eA9) (cs_heap (HB.new w9 #[.int .i64 (m : Int), .int .i64 (m7 : Int)] 2)) rfl (by simp [Value.oneCell']) (by unfold maxLen; omega) (by omega) (by have := (E9.trans eA9).size; omega) ?_; intro nv10 w10 own10 gr10 hb10; have M10 := (M9.ext eA9).grow (ws := ws1) (by rw [Hws.out, List.length_append, List.map_append]; exact own10) gr10 hb10; have E10 := (E9.trans eA9).grown gr10 (fun x hx => own_le M9.wr x hx); have Y10 := (Y9.ext eA9).chg (Chg.of_grown gr10) (fun h => own_neHB (own_ext M9.wr eA9) (Y9.ext eA9) (by decide) _ h.symm rfl); have f10 := M10.st.fn.cell 0 rfl)
      refine (addF_n w.heap.size (wf.heap.size + 1) (wf.heap.size + 1 + 1 + 1) _ _ o9 ws1 m9 _ _ 7 m 0 0 0 w10 M10 cn0 (by have := (E10).size; omega) hl9.out (by have := hm7.out; have := hm9.out; omega)).mono ?_
      rintro e w11 ⟨rfl, v11, cs11, bs11, o11, m11, ho11, hl11, hm11, M11, ch11⟩
      have E11 := M10.extOf E10 (Nat.le_refl _) (by omega) ch11
      have Y11 := M10.hbOf ch11 Y10 (by omega) (by decide)
      have f11 := M11.st.fn.cell 0 rfl
      go_wp2_with (fail)
      refine (addF_n w.heap.size (wf.heap.size + 1) (wf.heap.size + 1 + 1 + 1) _ _ o11 ws1 m11 _ _ 6 j m9 0 0 w11 M11 cn0 (by have := (E11).size; omega) hl11.out (by have := hm7.out; have := hm9.out; have := hm11.out; omega)).mono ?_
      rintro e w12 ⟨rfl, v12, cs12, bs12, o12, m12, ho12, hl12, hm12, M12, ch12⟩
      have E12 := M11.extOf E11 (Nat.le_refl _) (by omega) ch12
      have Y12 := M11.hbOf ch12 Y11 (by omega) (by decide)
      have f12 := M12.st.fn.cell 0 rfl
      go_wp2_with (fail)
      refine (addF_n w.heap.size (wf.heap.size + 1) (wf.heap.size + 1 + 1 + 1) _ _ o12 ws1 m12 _ _ 2 m11 m7 0 0 w12 M12 cn0 (by have := (E12).size; omega) hl12.out (by have := hm7.out; have := hm9.out; have := hm11.out; have := hm12.out; omega)).mono ?_
      rintro e w13 ⟨rfl, v13, cs13, bs13, o13, m13, ho13, hl13, hm13, M13, ch13⟩
      have E13 := M12.extOf E12 (Nat.le_refl _) (by omega) ch13
      have Y13 := M12.hbOf ch13 Y12 (by omega) (by decide)
      have f13 := M13.st.fn.cell 0 rfl
      go_wp2_with fail
      go_roundw
      case rel =>
       have hst := HMT.out.trans (mt_dense Hm.out hm7.out hm9.out hm11.out hm12.out (show ((lb : Nat) : Int) = d3 by have := lay_b0 HLay.out; rw [Hlb.out] at this; exact this))
       refine ⟨i + 1, v13, cs13, bs13, by omega, by go_num, by rw [hst], tapeB_step HD.out (Or.inl rfl) HT.out, ?_, Y13, E13⟩
       rw [hst]
       have h := M13
       rw [ho13.out, ho12.out, ho11.out, ho9.out, ho7.out, Hws.out] at h
       exact h
      case measure => simp [intOf]; omega
    · by_cases h1 : d1 = 1
      · subst h1
        clear h0
        have f6x := f6
        rw [hW6] at f6x
        go_wp2_with ((with_reducible show wpList _ _ _ (Oper.mk _ (Op.indexAddr _ _ _) _ _ _ _ :: Oper.mk _ (Op.load _ _) _ _ _ _ :: _) _ _); refine wl_idxloadE (s := shLayer) (j := i) rfl rfl rfl rfl (fun _ => rfl) rfl rfl rfl hp l3 l5.out hlt hs1 hci ?_; simp only [ofCs, Sh.agg, if_true])
        rw [← hW6]
        refine (addF_n w.heap.size (wf.heap.size + 1) (wf.heap.size + 1 + 1 + 1) _ _ ops ws m _ _ 8 j 0 0 0 w6 M6 cn0 (by have := (E6).size; omega) Hm.out (by omega)).mono ?_
        rintro e w7 ⟨rfl, v7, cs7, bs7, o7, m7, ho7, hl7, hm7, M7, ch7⟩
        have E7 := M6.extOf E6 (Nat.le_refl _) (by omega) ch7
        have Y7 := M6.hbOf ch7 Y6 (by omega) (by decide)
        have f7 := M7.st.fn.cell 0 rfl
        go_wp2_with fail
        go_roundw
        case rel =>
         have hst := HMT.out.trans (mt_relu Hm.out)
         refine ⟨i + 1, v7, cs7, bs7, by omega, by go_num, by rw [hst], tapeB_step HD.out (Or.inr (Or.inl rfl)) HT.out, ?_, Y7, E7⟩
         rw [hst]
         have h := M7
         rw [ho7.out] at h
         exact h
        case measure => simp [intOf]; omega
      · by_cases h2 : d1 = 2
        · subst h2
          clear h0 h1
          go_wp2_with ((with_reducible show wpList _ _ _ (Oper.mk _ (Op.indexAddr _ _ _) _ _ _ _ :: Oper.mk _ (Op.load _ _) _ _ _ _ :: _) _ _); refine wl_idxloadE (s := shLayer) (j := i) rfl rfl rfl rfl (fun _ => rfl) rfl rfl rfl hp l3 l5.out hlt hs1 hci ?_; simp only [ofCs, Sh.agg, if_true])
          rw [← hW6]
          refine (rowTensor_any pw lw cw uw W w6 Hlw.out (by omega) HHW.out.2.2.1 (HHW.out.1.ext E6) HHW.out.2.1).mono ?_
          rintro e w8 ⟨q8, k8, us8, rfl, own8, g8, e8⟩
          rw [Hlw.out] at own8 ⊢
          have E8 := E6.trans e8
          have M8 := M6.ext e8
          have Y8 := Y6.ext e8
          obtain ⟨hc8, hk8⟩ := own_csQ own8
          go_wp2_with (fail)
          refine (inputF_n w.heap.size (wf.heap.size + 1) (wf.heap.size + 1 + 1 + 1) _ _ ops ws m _ _ 1 lw q8 lw k8 us8 W w8 M8 (by have := (E8).size; omega) Hm.out (by omega) Hlw.out (by omega) hk8 hc8 g8).mono ?_
          rintro e w9 ⟨rfl, v9, cs9, bs9, o9, m9, ho9, hl9, hm9, M9, ch9⟩
          have E9 := M8.extOf E8 (Nat.le_refl _) (by omega) ch9
          have Y9 := M8.hbOf ch9 Y8 (by omega) (by decide)
          have f9 := M9.st.fn.cell 0 rfl
          obtain ⟨ws1, hws1⟩ : ∃ ws1, ws1 = ws ++ [(m : Int)] := ⟨_, rfl⟩
          have Hws := hid hws1; clear hws1
          have eA9 := Ext.alloc w9 (.cells #[.int .i64 (m : Int)] 2)
          go_wp2_with ((with_reducible show wpList _ _ _ (Oper.mk _ (Op.call _) _ _ _ _ :: _) _ _); refine wl_appW (B := w.heap.size) (n := ws.length) (m := 1) rfl rfl rfl rfl (own_ext M9.wr eA9) (cs_heap (HB.new w9 #[.int .i64 (m : Int)] 2)) rfl (by simp [Value.oneCell']) (by unfold maxLen; omega) (by omega) (by have := (E9.trans eA9).size; omega) ?_; intro nv10 w10 own10 gr10 hb10; have M10 := (M9.ext eA9).grow (ws := ws1) (by rw [Hws.out, List.length_append, List.map_append]; exact own10) gr10 hb10; have E10 := (E9.trans eA9).grown gr10 (fun x hx => own_le M9.wr x hx); have Y10 := (Y9.ext eA9).chg (Chg.of_grown gr10) (fun h => own_neHB (own_ext M9.wr eA9) (Y9.ext eA9) (by decide) _ h.symm rfl); have f10 := M10.st.fn.cell 0 rfl)
          refine (addF_n w.heap.size (wf.heap.size + 1) (wf.heap.size + 1 + 1 + 1) _ _ o9 ws1 m9 _ _ 4 j m 0 0 w10 M10 cn0 (by have := (E10).size; omega) hl9.out (by have := hm9.out; omega)).mono ?_
          rintro e w11 ⟨rfl, v11, cs11, bs11, o11, m11, ho11, hl11, hm11, M11, ch11⟩
          have E11 := M10.extOf E10 (Nat.le_refl _) (by omega) ch11
          have Y11 := M10.hbOf ch11 Y10 (by omega) (by decide)
          have f11 := M11.st.fn.cell 0 rfl
          go_wp2_with fail
          go_roundw
          case rel =>
           have hst := HMT.out.trans (mt_scale Hm.out hm9.out (show ((lw : Nat) : Int) = d2 by have := lay_w2 HLay.out; rw [Hlw.out] at this; exact this))
           refine ⟨i + 1, v11, cs11, bs11, by omega, by go_num, by rw [hst], tapeB_step HD.out (Or.inr (Or.inr rfl)) HT.out, ?_, Y11, E11⟩
           rw [hst]
           have h := M11
           rw [ho11.out, ho9.out, Hws.out] at h
           exact h
          case measure => simp [intOf]; omega
        · have q0 : (d1 == 0) = false := by simpa using h0
          have q1 : (d1 == 1) = false := by simpa using h1
          have q2 : (d1 == 2) = false := by simpa using h2
          have HN := hid (show ¬ (d1 = 0 ∨ d1 = 1 ∨ d1 = 2) by simp [h0, h1, h2])
          go_wp2_with ((with_reducible show wpList _ _ _ (Oper.mk _ (Op.indexAddr _ _ _) _ _ _ _ :: Oper.mk _ (Op.load _ _) _ _ _ _ :: _) _ _); refine wl_idxloadE (s := shLayer) (j := i) rfl rfl rfl rfl (fun _ => rfl) rfl rfl rfl hp l3 l5.out hlt hs1 hci ?_; simp only [ofCs, Sh.agg, if_true])
          refine bodyPost_ret (results_tmp3 (t := 6) (u := 7) (v := 8) (by kernel_rfl) _ _ _) rfl ?_
          rw [← hW6]
          exact ⟨Or.inl ⟨tapeB_no HD.out HN.out, rfl⟩, E6⟩
  · obtain rfl : i = n := by omega
    have hMT : mtape L (r, k, xs, ()) (r2, k2, ys, ()) = mtEnd (mtTo L (r, k, xs, ()) (r2, k2, ys, ()) i) := by funext z; unfold mtape; rw [HLl.out]
    have hMW : mweights L (r, k, xs, ()) (r2, k2, ys, ()) = (mtTo L (r, k, xs, ()) (r2, k2, ys, ()) i).2.1 := by unfold mweights; rw [HLl.out]
    have hT : tapeB L = true := by have h := HT.out; rw [List.take_of_length_le (by rw [HLl.out]; exact Nat.le_refl _)] at h; exact h
    have HMt := hid hMT; have HMw := hid hMW; have HTb := hid hT
    clear hMT hMW hT HT
    generalize mtTo L (r, k, xs, ()) (r2, k2, ys, ()) i = s at *
    obtain ⟨ops, ws, j⟩ := s
    dsimp only at hlen hwl M HMt HMw
    obtain ⟨m, hm⟩ : ∃ m, ops.length = m := ⟨_, rfl⟩
    rw [hm] at hlen
    have hm32 : m ≤ 32 := by omega
    have hjm : j < m := hlen.2.2
    have Hm := hid hm
    clear hm hlen
    have hrs := M.st.box.lt
    have hrs2 := Y.lt
    have hrs3 := M.st.fn.lt
    go_wp2_with fail
    have eD := Ext.drew wr
    have M1 := M.ext eD
    have E1' := he.trans eD
    have Y1 := Y.ext eD
    refine wp_region_T (n := 8) (S := fun W => HB W (wf.heap.size + 1 + 1 + 1) #[.func (.func 60) #[] #[.pointer (some ⟨(wf.heap.size + 1), 0, none⟩)]] 105) (by kernel_rfl) rfl ?_
    have hS0 : HB wr.drew (wf.heap.size + 1 + 1 + 1) #[.func (.func 60) #[] #[.pointer (some ⟨(wf.heap.size + 1), 0, none⟩)]] 105 := M1.st.fn
    refine hs_take (k := 0) (.func (.func 60) #[] #[.pointer (some ⟨(wf.heap.size + 1), 0, none⟩)]) (by kernel_rfl) rfl rfl (fun _ _ _ h => h) hS0 (fun W hW => by simp [execOp, Act.eval, run_load1 (P := Tryz.prog) (t := 105) (hW.cell 0 rfl)]) ?_
    (try simp only [List.getElem_toArray, List.getElem_cons_succ, List.getElem_cons_zero])
    simp only [Act.put, ev_tmp, pu1, pu2, pu3, pu4, pu5]
    refine hs_take (k := 1) (.int .i64 (j : Int)) (by kernel_rfl) rfl rfl (fun _ _ _ h => h) hS0 (fun W hW => by simp [execOp, Act.eval]) ?_
    (try simp only [List.getElem_toArray, List.getElem_cons_succ, List.getElem_cons_zero])
    simp only [Act.put, ev_tmp, pu1, pu2, pu3, pu4, pu5]
    refine hs_take (k := 2) (.func (.func 60) #[] #[.pointer (some ⟨(wf.heap.size + 1), 0, none⟩)]) (by kernel_rfl) rfl rfl (fun _ _ _ h => h) hS0 (fun W hW => by simp [execOp, Act.eval, run_load1 (P := Tryz.prog) (t := 105) (hW.cell 0 rfl)]) ?_
    (try simp only [List.getElem_toArray, List.getElem_cons_succ, List.getElem_cons_zero])
    simp only [Act.put, ev_tmp, pu1, pu2, pu3, pu4, pu5]
    refine hs_take (k := 3) (.int .i64 (m6 : Int)) (by kernel_rfl) rfl rfl (fun _ _ _ h => h) hS0 (fun W hW => by simp [execOp, Act.eval]) ?_
    (try simp only [List.getElem_toArray, List.getElem_cons_succ, List.getElem_cons_zero])
    simp only [Act.put, ev_tmp, pu1, pu2, pu3, pu4, pu5]
    refine hs_take (k := 4) (.agg #[.int .i64 5, .int .i64 (m6 : Int), .int .i64 0, .float .f32 3212836864, .int .i64 0, .int .i64 0, .slice none 0 0]) (by kernel_rfl) rfl rfl (fun _ _ _ h => h) hS0 (fun W hW => by go_simp) ?_
    (try simp only [List.getElem_toArray, List.getElem_cons_succ, List.getElem_cons_zero])
    simp only [Act.put, ev_tmp, pu1, pu2, pu3, pu4, pu5]
    refine hs_only (k := 5) (by kernel_rfl) ?_
    refine wpOp_callv (f := 60) (cap := #[.pointer (some ⟨(wf.heap.size + 1), 0, none⟩)]) (args := #[.agg #[.int .i64 5, .int .i64 (m6 : Int), .int .i64 0, .float .f32 3212836864, .int .i64 0, .int .i64 0, .slice none 0 0]]) rfl rfl rfl (by simp [Act.eval]) (enter_fn Tryz.func60 rfl (by kernel_rfl)) (by simp [Act.eval]) (addF_n w.heap.size (wf.heap.size + 1) (wf.heap.size + 1 + 1 + 1) _ _ ops ws m _ _ 5 m6 0 3212836864 negOne wr.drew M1 cn_neg1 (by have := E1'.size; omega) Hm.out (by omega)) ?_
    rintro e w8 ⟨rfl, v8, cs8, bs8, o8, m8, ho8, hl8, hm8, M8, ch8⟩
    refine ⟨_, rfl, M8.st.fn, ?_⟩
    have E8 := M1.extOf E1' (Nat.le_refl _) (by omega) ch8
    have Y8 := M1.hbOf ch8 Y1 (by omega) (by decide)
    have S8 := M8.st.fn
    (try simp only [List.getElem_toArray, List.getElem_cons_succ, List.getElem_cons_zero])
    simp only [Act.put, ev_tmp, pu1, pu2, pu3, pu4, pu5]
    refine hs_take (k := 6) (.agg #[.int .i64 1, .int .i64 (j : Int), .int .i64 (m : Int), .float .f32 0, .int .i64 0, .int .i64 0, .slice none 0 0]) (by kernel_rfl) rfl rfl (fun _ _ _ h => h) S8 (fun W hW => by go_simp) ?_
    (try simp only [List.getElem_toArray, List.getElem_cons_succ, List.getElem_cons_zero])
    simp only [Act.put, ev_tmp, pu1, pu2, pu3, pu4, pu5]
    refine hs_only (k := 7) (by kernel_rfl) ?_
    refine wpOp_callv (f := 60) (cap := #[.pointer (some ⟨(wf.heap.size + 1), 0, none⟩)]) (args := #[.agg #[.int .i64 1, .int .i64 (j : Int), .int .i64 (m : Int), .float .f32 0, .int .i64 0, .int .i64 0, .slice none 0 0]]) rfl rfl rfl (by simp [Act.eval]) (enter_fn Tryz.func60 rfl (by kernel_rfl)) (by simp [Act.eval]) (addF_n w.heap.size (wf.heap.size + 1) (wf.heap.size + 1 + 1 + 1) _ _ o8 ws m8 _ _ 1 j m 0 0 w8 M8 cn0 (by have := E8.size; omega) hl8.out (by have := hm8.out; omega)) ?_
    rintro e w9 ⟨rfl, v9, cs9, bs9, o9, m9, ho9, hl9, hm9, M9, ch9⟩
    refine ⟨_, rfl, M9.st.fn, ?_⟩
    have E9 := M8.extOf E8 (Nat.le_refl _) (by omega) ch9
    have Y9 := M8.hbOf ch9 Y8 (by omega) (by decide)
    have S9 := M9.st.fn
    (try simp only [List.getElem_toArray, List.getElem_cons_succ, List.getElem_cons_zero])
    simp only [Act.put, ev_tmp, pu1, pu2, pu3, pu4, pu5]
    refine hs_last (k := 8) (by kernel_rfl) rfl ?_
    have f9 := S9.cell 0 rfl
    go_wp2_with (fail)
    refine (addF_n w.heap.size (wf.heap.size + 1) (wf.heap.size + 1 + 1 + 1) _ _ o9 ws m9 _ _ 9 m8 0 0 0 w9 M9 cn0 (by have := (E9).size; omega) hl9.out (by have := hm8.out; have := hm9.out; omega)).mono ?_
    rintro e w10 ⟨rfl, v10, cs10, bs10, o10, m10, ho10, hl10, hm10, M10, ch10⟩
    have E10 := M9.extOf E9 (Nat.le_refl _) (by omega) ch10
    have Y10 := M9.hbOf ch10 Y9 (by omega) (by decide)
    have f10 := M10.st.fn.cell 0 rfl
    go_wp2_with (fail)
    refine (addF_n w.heap.size (wf.heap.size + 1) (wf.heap.size + 1 + 1 + 1) _ _ o10 ws m10 _ _ 10 m9 0 0 0 w10 M10 cn0 (by have := (E10).size; omega) hl10.out (by have := hm8.out; have := hm9.out; have := hm10.out; omega)).mono ?_
    rintro e w11 ⟨rfl, v11, cs11, bs11, o11, m11, ho11, hl11, hm11, M11, ch11⟩
    have E11 := M10.extOf E10 (Nat.le_refl _) (by omega) ch11
    have Y11 := M10.hbOf ch11 Y10 (by omega) (by decide)
    have f11 := M11.st.fn.cell 0 rfl
    have y112 := Y11.cell 2 rfl
    go_wp2_with ((with_reducible show wpList _ _ _ (Oper.mk _ (Op.binOp _ _ _ _ _) _ _ _ _ :: _) _ _); refine wl_fop rfl rfl rfl rfl rfl ?_; intro r12 w12 e12 g12; have G12 := hid g12; clear g12; have M12 := M11.ext e12; have E12 := E11.trans e12; have Y12 := Y11.ext e12; have f12 := M12.st.fn.cell 0 rfl)
    refine (addF_n w.heap.size (wf.heap.size + 1) (wf.heap.size + 1 + 1 + 1) _ _ o11 ws m11 _ _ 5 m10 0 r12 (fop .quo .f32 oneB32 (cn .f32 (floatOfInt .f32 (ny : Int)))) w12 M12 (by rw [G12.out]; exact congrArg (fun z => fop .quo .f32 z (cn .f32 (floatOfInt .f32 (ny : Int)))) cn_one1) (by have := (E12).size; omega) hl11.out (by have := hm8.out; have := hm9.out; have := hm10.out; have := hm11.out; omega)).mono ?_
    rintro e w13 ⟨rfl, v13, cs13, bs13, o13, m13, ho13, hl13, hm13, M13, ch13⟩
    have E13 := M12.extOf E12 (Nat.le_refl _) (by omega) ch13
    have Y13 := M12.hbOf ch13 Y12 (by omega) (by decide)
    have f13 := M13.st.fn.cell 0 rfl
    have t13 := M13.st.box.cell 0 rfl
    go_wp2_with fail
    refine bodyPost_ret (results_tmp3 (t := 6) (u := 7) (v := 8) (by kernel_rfl) _ _ _) rfl ?_
    refine ⟨Or.inr ⟨HTb.out, v13, _, cs13, bs13, rfl, ?_, ?_⟩, E13⟩
    · have h := M13.st.row
      have hst : o13 = mtape L (r, k, xs, ()) (r2, k2, ys, ()) (fop .quo .f32 oneB32 (cn .f32 (floatOfInt .f32 (ny : Int)))) := by
       rw [HMt.out, ho13.out, ho11.out, ho10.out, ho9.out, ho8.out]
       exact (mt_end Hm.out hm8.out hm9.out hm10.out (by have := hm6.out; omega)).symm
      rw [← hst]
      exact h
    · rw [HMw.out]
      exact M13.wr
end Go.Proofs.YtlimabbeaimdgaaGreat
