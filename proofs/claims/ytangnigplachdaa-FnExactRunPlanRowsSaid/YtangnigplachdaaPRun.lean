/- Plans: what their steps make of a row, the program's part. -/
import Derived.Test.YtangnigplachdaaPlF
import Derived.Test.YtangnigplachdaaKf
namespace Go.Proofs.Ytangnigplachdaa
set_option linter.unusedSimpArgs false
set_option linter.unusedVariables false
open Go.RowKit

/-- The steps of a plan behind a slice. -/
structure Stps (w : World) (p : Option Addr) (n : Nat) (css : List (List Value)) (l : List shPlanStep.T) : Prop where
  cs : Cs w p css.flatten
  all : All2 (Rep w shPlanStep) css l
  size : ∀ c ∈ css, c.length = shPlanStep.sz
  len : l.length = n
  cnt : css.length = n
  le : n ≤ maxLen
theorem Stps.ext {w w' : World} {p : Option Addr} {n : Nat} {css : List (List Value)} {l : List shPlanStep.T} (h : Stps w p n css l) (e : Ext w w') : Stps w' p n css l :=
  ⟨h.cs.ext e, h.all.imp fun _ _ => Rep.ext e, h.size, h.len, h.cnt, h.le⟩
theorem stps_of {w : World} {cs : List Value} {D : shPlan.T} (h : Rep w shPlan cs D) : ∃ p c css, cs = [.slice p D.1.length c] ∧ Stps w p D.1.length css D.1 := by
  obtain ⟨l, u⟩ := D
  obtain ⟨_, _, rfl, h1, rfl⟩ := h
  obtain ⟨p, c, css, rfl, a2, a3, a4, a5, a6, a7⟩ := rep_sl h1
  exact ⟨p, c, css, rfl, a2, a5, a6, rfl, a7, Nat.le_trans a3 a4⟩
/-- The cells of a step, the layer among them. -/
theorem stp_nums {w : World} {cs : List Value} {d : shPlanStep.T} (h : Rep w shPlanStep cs d) : ∃ pw cw pb cb ps cq uw ub uq, cs = [.int .i64 d.1, .int .i64 d.2.1, .int .i64 d.2.2.1, .slice pw (d.2.2.2.1 : List Nat).length cw, .slice pb (d.2.2.2.2.1 : List Nat).length cb, .slice ps (d.2.2.2.2.2.1 : List Nat).length cq, .bool d.2.2.2.2.2.2.1] ∧
    Rep w shLayer [.int .i64 d.1, .int .i64 d.2.1, .int .i64 d.2.2.1, .slice pw (d.2.2.2.1 : List Nat).length cw, .slice pb (d.2.2.2.2.1 : List Nat).length cb] (stpL d) ∧
    Cs w pw uw ∧ F32s uw d.2.2.2.1 ∧ Cs w pb ub ∧ F32s ub d.2.2.2.2.1 ∧ Cs w ps uq ∧ F32s uq d.2.2.2.2.2.1 ∧ (d.2.2.2.1 : List Nat).length ≤ maxLen ∧ (d.2.2.2.2.1 : List Nat).length ≤ maxLen ∧ (d.2.2.2.2.2.1 : List Nat).length ≤ maxLen := by
  obtain ⟨a1, a2, a3, a4, a5, a6, a7, au⟩ := d
  obtain ⟨_, _, rfl, rfl, _, _, rfl, rfl, _, _, rfl, rfl, _, _, rfl, h4, _, _, rfl, h5, _, _, rfl, h6, _, _, rfl, rfl, rfl⟩ := h
  obtain ⟨p4, c4, u4, rfl, k1, k2, k3, k4⟩ := rep_flts.1 h4
  obtain ⟨p5, c5, u5, rfl, l1, l2, l3, l4⟩ := rep_flts.1 h5
  obtain ⟨p6, c6, u6, rfl, m1, m2, m3, m4⟩ := rep_flts.1 h6
  refine ⟨p4, c4, p5, c5, p6, c6, u4, u5, u6, rfl, ?_, k1, k2, l1, l2, m1, m2, Nat.le_trans k3 k4, Nat.le_trans l3 l4, Nat.le_trans m3 m4⟩
  exact ⟨[.int .i64 a1], [.int .i64 a2, .int .i64 a3, .slice p4 a4.length c4, .slice p5 a5.length c5], rfl, rfl, [.int .i64 a2], [.int .i64 a3, .slice p4 a4.length c4, .slice p5 a5.length c5], rfl, rfl, [.int .i64 a3], [.slice p4 a4.length c4, .slice p5 a5.length c5], rfl, rfl, [.slice p4 a4.length c4], [.slice p5 a5.length c5], rfl, h4, [.slice p5 a5.length c5], [], rfl, h5, rfl⟩
theorem cs_cell {w : World} {g : Nat} {cs : List Value} (h : Cs w (some ⟨g, 0, none⟩) cs) (j : Nat) {v : Value} (hv : cs[j]? = some v) : w.cell? ⟨g, j, none⟩ = some v := by have := h.cell j v hv; rwa [adr_row] at this
theorem slay_int {d : shPlanStep.T} (h : stpD d = true) : (d.2.1.toNat : Int) = d.2.1 ∧ (d.2.2.1.toNat : Int) = d.2.2.1 ∧ d.2.1.toNat ≤ 8 ∧ 1 ≤ d.2.1.toNat ∧ d.2.2.1.toNat ≤ 8 ∧ 1 ≤ d.2.2.1.toNat := stp_in h
/-- A step's numbers, one of three ways. -/
theorem stepF_relu {d : shPlanStep.T} (h : d.2.2.2.2.2.2.1 = true) {xs ys : List Nat} (hy : layF (stpL d) xs = ys) : stepF d xs = tab ys.length fun i => reluF (ys.getD i 0) := by
  subst hy
  unfold stepF
  congr 1
  funext i
  unfold aftF
  rw [if_pos h]
theorem stepF_scale {d : shPlanStep.T} (h : d.2.2.2.2.2.2.1 = false) (h2 : ¬ (d.2.2.2.2.2.1 : List Nat).length = 0) {xs ys : List Nat} (hy : layF (stpL d) xs = ys) : stepF d xs = tab ys.length fun i => fop .mul .f32 (ys.getD i 0) ((d.2.2.2.2.2.1 : List Nat).getD i 0) := by
  subst hy
  unfold stepF
  congr 1
  funext i
  unfold aftF
  rw [if_neg (by rw [h]; simp), if_neg h2]
set_option maxRecDepth 100000 in
set_option maxHeartbeats 4000000 in
theorem planRun_any (p q0 : Option Addr) (n c m0 c0 : Nat) (css : List (List Value)) (l : List shPlanStep.T) (x : List Nat) (w : World) (L : Stps w p n css l) (hM : PlaOk l) (hX : Rep w (.sl .flt) [.slice q0 m0 c0] x) (hx : tkB l x.length = true) :
    Calls Try.prog 111 #[.agg #[.slice p n c], .slice q0 m0 c0] w (RetFl w (curP l x n)) := by
  have hn : n ≤ 6 := by have := hM.few; rw [L.len] at this; exact this
  have HL := hid L.len
  have Hstp := hid hM.stp
  have Hlen := hid (curP_len hM hx)
  have Hle := hid (curP_le hM hx)
  have Hs := hid (fun i => @curP_succ l x i)
  have hx8 : x.length ≤ 8 := by have := Hle.out 0 (by omega); rwa [curP_zero] at this
  have l1 := L.cs; have l2 := L.all; have l3 := L.size; have l5 := hid L.cnt
  obtain ⟨us, x1, x2, x3, x4⟩ := rep_flt1 hX
  subst x1
  have C0 := hid (fun W (h : Ext w W) => cloneF_any q0 x.length c0 us x W rfl (by omega) (by omega) (x2.ext h) x3)
  clear L hM hx hX x2 x3 x4
  go_enter Try.func111, Try.ntmps111
  go_wp2_with fail
  refine (C0.out _ (Ext.alloc _ _)).mono ?_
  intro e w0 h0
  obtain ⟨u0, rfl, e0, q, cq, vs, rfl, o0, f0⟩ := h0.is
  have g0 := e0.cellOf (b := w.heap.size) (by simp)
  have o0 := own_base o0 (Ext.alloc w (.cells #[.slice p n c] 75)).size
  have E0 := (Ext.alloc w (.cells #[.slice p n c] 75)).trans e0
  clear h0 e0 C0
  have F0 := hid f0
  clear f0
  go_wp2_with fail
  go_loopw [5, 14] (fun ov iv wr => ∃ (i : Nat) (q : Option Addr) (mq cq : Nat) (vs : List Value), i ≤ n ∧ iv = .int .i64 i ∧ ov = .slice q mq cq ∧ (curP l x i).length = mq ∧ wr.ownsRow w.heap.size 106 1 (.slice q mq cq) mq vs ∧ Hid (F32s vs (curP l x i)) ∧ Ext w wr) (fun _ iv _ => n - (intOf iv).toNat)
  case atStart => exact ⟨0, q, _, cq, vs, by omega, rfl, rfl, rfl, o0, F0.out, E0⟩
  case round =>
    clear o0 g0 E0 F0
    obtain ⟨i, q, mq, cq, vs, hi, rfl, rfl, hml, hown, HX, he⟩ := hrel
    have hHl := Hle.out i (by rw [HL.out]; omega)
    rw [hml] at hHl
    by_cases hlt : i < n
    · have hil : i < l.length := by rw [HL.out]; exact hlt
      obtain ⟨ci, hci, ri⟩ := l2.get i l[i] (by simp)
      have hs1 := l1.some_of l3 (by decide) (show 0 < css.length by rw [l5.out]; omega)
      have hp := l1.ext he
      have hv := Hstp.out i hil
      have hin := Hlen.out i hil
      have hsucc := Hs.out i hil
      rw [hml] at hin
      generalize l[i] = d at *
      have h1i := hid ri.size
      have o1i := hid ri.one
      obtain ⟨pw, cw, pb, cb, ps, cz, uw, ub, uq, rfl, rl, n1, n2, n3, n4, n5, n6, m1, m2, m3⟩ := stp_nums ri
      have C1 := hid (fun W (h : Ext wr W) => run_lay _ (stpL d) q mq cq vs (curP l x i) W (rl.ext (he.trans h)) (stp_of hv).1 hml hin ((own_Cs hown).ext h) HX.out)
      have hout : ((layF (stpL d) (curP l x i)).length : Int) = d.2.2.1 := layF_len (d := stpL d) (stp_of hv).1 (show ((curP l x i).length : Int) = d.2.1 by rw [hml]; exact hin)
      have hbare := stepF_bare (d := d) (xs := curP l x i)
      have hrelu := fun h ys hy => stepF_relu (d := d) h (xs := curP l x i) (ys := ys) hy
      have hscal := fun h h2 ys hy => stepF_scale (d := d) h h2 (xs := curP l x i) (ys := ys) hy
      generalize curP l x i = cur at *
      generalize hys : layF (stpL d) cur = ys at C1 hout ⊢
      obtain ⟨dk, di, dd, dw, db, ds, drl, du⟩ := d
      dsimp only at hout hbare hrelu hscal m1 m2 m3 n5 n6 hci h1i o1i
      have hm8 : ys.length ≤ 8 := by have := slay_int hv; dsimp only at this hout; omega
      have Hds := hid (stp_of hv).2
      have hds8 : drl = false → ¬ ds.length = 0 → ys.length ≤ ds.length := by
        intro h1 h2
        have h3 := Hds.out
        dsimp only at h3
        by_cases h4 : dk = 0
        · rcases h3.2 h4 with h5 | h5
          · exact absurd h5 h2
          · omega
        · exact absurd (h3.1 h4).1 h2
      have HSC := hid hsucc
      clear hsucc n1 n2 n3 n4 rl ri hv hin hout Hds
      generalize hns : ds.length = ns at *
      have HNS := hid hns
      generalize dw.length = nw at *
      generalize db.length = nb at *
      generalize hm7 : ys.length = m7 at *
      have HM7 := hid hm7
      clear hm7 hns
      cases drl
      · by_cases h0 : ns = 0
        · subst h0
          have hn := HSC.out.trans ((hbare rfl rfl).trans hys)
          have HN := hid hn
          clear hn hbare hrelu hscal hds8 HSC hys
          go_wp2_with (first | ((with_reducible show wpList _ _ _ (Oper.mk _ (Op.indexAddr _ _ _) _ _ _ _ :: Oper.mk _ (Op.load _ _) _ _ _ _ :: _) _ _); refine wl_idxloadE (s := shPlanStep) (j := i) rfl rfl rfl rfl (fun _ => rfl) rfl rfl rfl hp l3 l5.out hlt hs1 hci ?_; simp only [ofCs, Sh.agg, if_true]) | ((with_reducible show wpList _ _ _ (Oper.mk _ (Op.store _ _ _) _ _ _ _ :: _) _ _); refine wl_stA (s := shPlanStep) (cs := [.int .i64 dk, .int .i64 di, .int .i64 dd, .slice pw nw cw, .slice pb nb cb, .slice ps 0 cz, .bool false]) rfl rfl rfl rfl (heap_alloc_new _ _) rfl h1i.out o1i.out (by decide) ?_; intro w5 c5 ch5; have E5 : Ext wr w5 := (Ext.alloc _ _).chg ch5 (fun b hb => by subst hb; exact Nat.le_refl _); clear ch5; have b5 := cs_cell c5 5 rfl; have b6 := cs_cell c5 6 rfl) | ((with_reducible show wpList _ _ _ (Oper.mk _ (Op.load _ _) _ _ _ _ :: _) _ _); refine wl_ldA (s := shPlanStep) (cs := [.int .i64 dk, .int .i64 di, .int .i64 dd, .slice pw nw cw, .slice pb nb cb, .slice ps 0 cz, .bool false]) rfl rfl rfl c5 h1i.out ?_; simp only [ofCs, Sh.agg, if_true]))
          refine (layer_any dk di dd pw pb ps nw cw nb cb 0 cz false _).mono ?_
          rintro e w6 ⟨rfl, e6⟩
          have E6 := E5.trans e6
          have y5 := e6.cell b5; have y6 := e6.cell b6
          clear b5 b6 c5
          go_wp2_with fail
          refine (C1.out _ E6).mono ?_
          intro e w7 h7
          obtain ⟨u7, rfl, e7, q7, c7, vs7, rfl, o7, f7⟩ := h7.is
          rw [HM7.out] at o7 ⊢
          have F7 := hid f7
          clear h7 f7
          have z5 := e7.cell y5; have z6 := e7.cell y6
          have E7 := he.trans (E6.trans e7)
          have hb6 := (he.trans E6).size
          go_wp2_with fail
          go_loopw [24] (fun jv wq => ∃ (j : Nat), j ≤ m7 ∧ jv = .int .i64 j ∧ Ext w7 wq) (fun jv _ => m7 - (intOf jv).toNat)
          case atStart => exact ⟨0, by omega, rfl, Ext.refl _⟩
          case round =>
            obtain ⟨j, hj, rfl, hq⟩ := hrel
            have k5 := hq.cell z5; have k6 := hq.cell z6
            by_cases hjl : j < m7
            · go_wp2
              go_roundw
              case rel => exact ⟨j + 1, by omega, by go_num, hq⟩
              case measure => simp [intOf]; omega
            · obtain rfl : j = m7 := by omega
              go_wp2
              go_roundw
              case rel => exact ⟨i + 1, q7, j, c7, vs7, by omega, by go_num, rfl, by rw [HN.out, HM7.out], own_base (own_ext o7 hq) hb6, by rw [HN.out]; exact F7.out, E7.trans hq⟩
              case measure => simp [intOf]; omega
        · have hn := HSC.out.trans (hscal rfl h0 ys hys)
          have HN := hid hn
          have hds7 := hds8 rfl h0
          have hgt : decide ((ns : Int) > 0) = true := by simp; omega
          clear hn hbare hrelu hscal hds8 HSC hys
          go_wp2_with (first | ((with_reducible show wpList _ _ _ (Oper.mk _ (Op.indexAddr _ _ _) _ _ _ _ :: Oper.mk _ (Op.load _ _) _ _ _ _ :: _) _ _); refine wl_idxloadE (s := shPlanStep) (j := i) rfl rfl rfl rfl (fun _ => rfl) rfl rfl rfl hp l3 l5.out hlt hs1 hci ?_; simp only [ofCs, Sh.agg, if_true]) | ((with_reducible show wpList _ _ _ (Oper.mk _ (Op.store _ _ _) _ _ _ _ :: _) _ _); refine wl_stA (s := shPlanStep) (cs := [.int .i64 dk, .int .i64 di, .int .i64 dd, .slice pw nw cw, .slice pb nb cb, .slice ps ns cz, .bool false]) rfl rfl rfl rfl (heap_alloc_new _ _) rfl h1i.out o1i.out (by decide) ?_; intro w5 c5 ch5; have E5 : Ext wr w5 := (Ext.alloc _ _).chg ch5 (fun b hb => by subst hb; exact Nat.le_refl _); clear ch5; have b5 := cs_cell c5 5 rfl; have b6 := cs_cell c5 6 rfl) | ((with_reducible show wpList _ _ _ (Oper.mk _ (Op.load _ _) _ _ _ _ :: _) _ _); refine wl_ldA (s := shPlanStep) (cs := [.int .i64 dk, .int .i64 di, .int .i64 dd, .slice pw nw cw, .slice pb nb cb, .slice ps ns cz, .bool false]) rfl rfl rfl c5 h1i.out ?_; simp only [ofCs, Sh.agg, if_true]))
          refine (layer_any dk di dd pw pb ps nw cw nb cb ns cz false _).mono ?_
          rintro e w6 ⟨rfl, e6⟩
          have E6 := E5.trans e6
          have y5 := e6.cell b5; have y6 := e6.cell b6
          clear b5 b6 c5
          go_wp2_with fail
          refine (C1.out _ E6).mono ?_
          intro e w7 h7
          obtain ⟨u7, rfl, e7, q7, c7, vs7, rfl, o7, f7⟩ := h7.is
          rw [HM7.out] at o7 ⊢
          have F7 := hid f7
          clear h7 f7
          have z5 := e7.cell y5; have z6 := e7.cell y6
          have E7 := he.trans (E6.trans e7)
          have hb6 := (he.trans E6).size
          go_wp2_with fail
          go_loopw [24] (fun jv wq => ∃ (j : Nat) (us : List Value), j ≤ m7 ∧ jv = .int .i64 j ∧ wq.ownsRow w6.heap.size 106 1 (.slice q7 m7 c7) m7 us ∧ Hid (F32s us (tab m7 (mix (fun i => fop .mul .f32 (ys.getD i 0) (ds.getD i 0)) (fun i => ys.getD i 0) j))) ∧ Ext w6 wq) (fun jv _ => m7 - (intOf jv).toNat)
          case atStart => exact ⟨0, vs7, by omega, rfl, o7, by rw [tab_mix0, ← HM7.out, tab_self]; exact F7.out, e7⟩
          case round =>
            clear z5 z6 e7 E7 o7
            obtain ⟨j, us, hj, rfl, o7, F7, hq⟩ := hrel
            have k5 := hq.cell y5; have k6 := hq.cell y6
            have hjt := (he.trans E6).trans hq
            by_cases hjl : j < m7
            · have HL7 := hid (tab_len m7 (mix (fun i => fop .mul .f32 (ys.getD i 0) (ds.getD i 0)) (fun i => ys.getD i 0) j))
              have hg : (tab m7 (mix (fun i => fop .mul .f32 (ys.getD i 0) (ds.getD i 0)) (fun i => ys.getD i 0) j)).getD j 0 = ys.getD j 0 := by rw [tab_get _ hjl]; unfold mix; rw [if_neg (by omega)]
              have HG := hid hg
              have hsome := (own_Cs o7).isS (by have := o7.1; intro h; rw [h] at this; simp at this; omega)
              clear hg
              go_wp2
              have hD := Ext.drew wr
              replace o7 := own_ext o7 hD
              have t1 := own_Cs o7
              have t2 := n5.ext (hjt.trans hD)
              have t5 := hD.cell k5
              refine wp_region_xt 13 (F := fun _ _ _ => True) (by kernel_rfl) (by kernel_rfl) (by kernel_rfl) (by kernel_rfl) (by kernel_rfl) ?_
              intro wf hwf
              simp only [List.take_succ_cons, List.take_zero, List.drop_succ_cons, List.drop_zero]
              repeat (first
                | (refine x_skip rfl ?_; simp only [Act.put, ev_tmp, List.setIfInBounds_toArray, List.set_cons_succ, List.set_cons_zero, List.getD_cons_succ, List.getD_cons_zero])
                | (refine x_mv rfl rfl rfl ?_; simp only [Act.put, ev_tmp, List.setIfInBounds_toArray, List.set_cons_succ, List.set_cons_zero, List.getD_cons_succ, List.getD_cons_zero])
                | (refine x_as rfl rfl rfl ?_; simp only [Act.put, ev_tmp, List.setIfInBounds_toArray, List.set_cons_succ, List.set_cons_zero, List.getD_cons_succ, List.getD_cons_zero])
                | ((with_reducible show wpX _ _ _ _ _ _ (Oper.mk _ (Op.indexAddr _ _ _) _ _ _ _ :: Oper.mk _ (Op.load _ _) _ _ _ _ :: _) _); refine x_ldF rfl rfl (fun _ => rfl) rfl (fun _ => rfl) rfl rfl t1 F7.out HL7.out (by omega) (by omega) ?_; intro r7 g7; have G7 := hid g7; clear g7; simp only [Act.put, ev_tmp, List.setIfInBounds_toArray, List.set_cons_succ, List.set_cons_zero, List.getD_cons_succ, List.getD_cons_zero])
                | ((with_reducible show wpX _ _ _ _ _ _ (Oper.mk _ (Op.indexAddr _ _ _) _ _ _ _ :: Oper.mk _ (Op.load _ _) _ _ _ _ :: _) _); refine x_ldF rfl rfl (fun _ => rfl) rfl (fun _ => rfl) rfl rfl t2 n6 HNS.out (by omega) (by omega) ?_; intro r8 g8; have G8 := hid g8; clear g8; simp only [Act.put, ev_tmp, List.setIfInBounds_toArray, List.set_cons_succ, List.set_cons_zero, List.getD_cons_succ, List.getD_cons_zero])
                | ((with_reducible show wpX _ _ _ _ _ _ (Oper.mk _ (Op.indexAddr _ _ _) _ _ _ _ :: _) _); refine x_idx rfl rfl rfl rfl hsome (by omega) (by omega) ?_; simp only [Act.put, ev_tmp, List.setIfInBounds_toArray, List.set_cons_succ, List.set_cons_zero, List.getD_cons_succ, List.getD_cons_zero])
                | ((with_reducible show wpX _ _ _ _ _ _ (Oper.mk _ (Op.binOp _ _ _ _ _) _ _ _ _ :: _) _); refine x_fop rfl rfl rfl rfl rfl ?_; intro r9 g9; have G9 := hid g9; clear g9; simp only [Act.put, ev_tmp, List.setIfInBounds_toArray, List.set_cons_succ, List.set_cons_zero, List.getD_cons_succ, List.getD_cons_zero])
                | (refine x_run rfl fun K hK w1 hw1 => ?_; have k0 := hw1.cell (t5); go_simp; refine hK _ ?_; clear hK K k0 hw1 w1))
              refine x_nil ?_
              replace o7 := own_ext o7 hwf
              go_wp2_with ((with_reducible show wpList _ _ _ (Oper.mk _ (Op.store _ _ _) _ _ _ _ :: _) _ _); refine wl_stP (u := .float .f32 r9) rfl rfl rfl rfl rfl o7 (by omega) ?_; intro w9 own9 g9)
              go_roundw
              case rel =>
                refine ⟨j + 1, _, by omega, by go_num, own9, ?_, (hq.trans (hD.trans hwf)).grown g9 (fun k hk => own_le o7 k hk)⟩
                have a7 := G7.out
                have a8 := G8.out
                rw [Int.toNat_natCast] at a7 a8
                rw [HG.out] at a7
                simp only [Int.toNat_natCast, Nat.mul_one, Hid]
                exact F7.out.put hjl (by rw [G9.out, a7, a8])
              case measure => simp [intOf]; omega
            · obtain rfl : j = m7 := by omega
              rw [tab_mixn] at F7
              go_wp2
              go_roundw
              case rel => exact ⟨i + 1, q7, j, c7, us, by omega, by go_num, rfl, by rw [HN.out, tab_len, HM7.out], own_base o7 hb6, by rw [HN.out, HM7.out]; exact F7.out, hjt⟩
              case measure => simp [intOf]; omega
      · have hn := HSC.out.trans (hrelu rfl ys hys)
        have HN := hid hn
        clear hn hbare hrelu hscal hds8 HSC hys
        go_wp2_with (first | ((with_reducible show wpList _ _ _ (Oper.mk _ (Op.indexAddr _ _ _) _ _ _ _ :: Oper.mk _ (Op.load _ _) _ _ _ _ :: _) _ _); refine wl_idxloadE (s := shPlanStep) (j := i) rfl rfl rfl rfl (fun _ => rfl) rfl rfl rfl hp l3 l5.out hlt hs1 hci ?_; simp only [ofCs, Sh.agg, if_true]) | ((with_reducible show wpList _ _ _ (Oper.mk _ (Op.store _ _ _) _ _ _ _ :: _) _ _); refine wl_stA (s := shPlanStep) (cs := [.int .i64 dk, .int .i64 di, .int .i64 dd, .slice pw nw cw, .slice pb nb cb, .slice ps ns cz, .bool true]) rfl rfl rfl rfl (heap_alloc_new _ _) rfl h1i.out o1i.out (by decide) ?_; intro w5 c5 ch5; have E5 : Ext wr w5 := (Ext.alloc _ _).chg ch5 (fun b hb => by subst hb; exact Nat.le_refl _); clear ch5; have b5 := cs_cell c5 5 rfl; have b6 := cs_cell c5 6 rfl) | ((with_reducible show wpList _ _ _ (Oper.mk _ (Op.load _ _) _ _ _ _ :: _) _ _); refine wl_ldA (s := shPlanStep) (cs := [.int .i64 dk, .int .i64 di, .int .i64 dd, .slice pw nw cw, .slice pb nb cb, .slice ps ns cz, .bool true]) rfl rfl rfl c5 h1i.out ?_; simp only [ofCs, Sh.agg, if_true]))
        refine (layer_any dk di dd pw pb ps nw cw nb cb ns cz true _).mono ?_
        rintro e w6 ⟨rfl, e6⟩
        have E6 := E5.trans e6
        have y5 := e6.cell b5; have y6 := e6.cell b6
        clear b5 b6 c5
        go_wp2_with fail
        refine (C1.out _ E6).mono ?_
        intro e w7 h7
        obtain ⟨u7, rfl, e7, q7, c7, vs7, rfl, o7, f7⟩ := h7.is
        rw [HM7.out] at o7 ⊢
        have F7 := hid f7
        clear h7 f7
        have z5 := e7.cell y5; have z6 := e7.cell y6
        have E7 := he.trans (E6.trans e7)
        have hb6 := (he.trans E6).size
        go_wp2_with fail
        go_loopw [24] (fun jv wq => ∃ (j : Nat) (us : List Value), j ≤ m7 ∧ jv = .int .i64 j ∧ wq.ownsRow w6.heap.size 106 1 (.slice q7 m7 c7) m7 us ∧ Hid (F32s us (tab m7 (mix (fun i => reluF (ys.getD i 0)) (fun i => ys.getD i 0) j))) ∧ Ext w6 wq) (fun jv _ => m7 - (intOf jv).toNat)
        case atStart => exact ⟨0, vs7, by omega, rfl, o7, by rw [tab_mix0, ← HM7.out, tab_self]; exact F7.out, e7⟩
        case round =>
          clear z5 z6 e7 E7 o7
          obtain ⟨j, us, hj, rfl, o7, F7, hq⟩ := hrel
          have k5 := hq.cell y5; have k6 := hq.cell y6
          have hjt := (he.trans E6).trans hq
          by_cases hjl : j < m7
          · have HL7 := hid (tab_len m7 (mix (fun i => reluF (ys.getD i 0)) (fun i => ys.getD i 0) j))
            have hg : (tab m7 (mix (fun i => reluF (ys.getD i 0)) (fun i => ys.getD i 0) j)).getD j 0 = ys.getD j 0 := by rw [tab_get _ hjl]; unfold mix; rw [if_neg (by omega)]
            have HG := hid hg
            clear hg
            have t1 := own_Cs o7
            go_wp2_with (first | ((with_reducible show wpList _ _ _ (Oper.mk _ (Op.indexAddr _ _ _) _ _ _ _ :: Oper.mk _ (Op.load _ _) _ _ _ _ :: _) _ _); refine wl_ldF rfl rfl rfl rfl (fun _ => rfl) rfl rfl t1 F7.out HL7.out (by omega) (by omega) ?_; intro r7 g7; have G7 := hid g7; clear g7) | ((with_reducible show wpList _ _ _ (Oper.mk _ (Op.call _) _ _ _ _ :: _) _ _); fail))
            refine (relu_any r7 _).mono ?_
            rintro e w8 ⟨r8, rfl, g8, e8⟩
            have a7 := G7.out
            rw [Int.toNat_natCast, HG.out] at a7
            rw [a7] at g8
            have G8 := hid g8
            clear g8 a7
            replace o7 := own_ext o7 e8
            go_wp2_with ((with_reducible show wpList _ _ _ (Oper.mk _ (Op.indexAddr _ _ _) _ _ _ _ :: Oper.mk _ (Op.store _ _ _) _ _ _ _ :: _) _ _); refine wl_idxstore (u := .float .f32 r8) rfl rfl rfl rfl (fun _ => rfl) rfl rfl (fun _ => rfl) rfl o7 (by omega) (by omega) ?_; intro w9 own9 g9)
            go_roundw
            case rel =>
              refine ⟨j + 1, _, by omega, by go_num, own9, ?_, (hq.trans e8).grown g9 (fun k hk => own_le o7 k hk)⟩
              rw [Int.toNat_natCast]
              exact F7.out.put hjl G8.out
            case measure => simp [intOf]; omega
          · obtain rfl : j = m7 := by omega
            rw [tab_mixn] at F7
            go_wp2
            go_roundw
            case rel => exact ⟨i + 1, q7, j, c7, us, by omega, by go_num, rfl, by rw [HN.out, tab_len, HM7.out], own_base o7 hb6, by rw [HN.out, HM7.out]; exact F7.out, hjt⟩
            case measure => simp [intOf]; omega
    · obtain rfl : n = i := by omega
      go_wp2
      go_ret
      exact retFl_of hml hown HX.out rfl he
end Go.Proofs.Ytangnigplachdaa
