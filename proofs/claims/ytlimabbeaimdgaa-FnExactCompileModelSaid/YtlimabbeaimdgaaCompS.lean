/- CompileModel of the reference. -/
import Derived.Test.YtlimabbeaimdgaaCompP
namespace Go.Proofs.Ytlimabbeaimdgaa
set_option linter.unusedSimpArgs false
set_option linter.unusedVariables false
open Go.RowKit

set_option maxRecDepth 100000 in
set_option maxHeartbeats 9000000 in
theorem l09Compile_any {sp : Option Nat} (bl o' : Nat) (p : Option Addr) (n c : Nat) (css : List (List Value)) (L0 : List shLayer.T) (w : World) (L : Lays w p n css L0) (hS : Small L0) (f0 : w.cell? ⟨bl, o', sp⟩ = some (.slice p n c)) :
    Calls Try.prog 69 #[.pointer (some ⟨bl, o', sp⟩)] w fun e w' => ∃ cs bs, e = .returned (ofCs shPlan cs) ∧ Own w' shPlan cs (cmpF L0 n, ()) bs ∧ (∀ b ∈ bs, w.heap.size ≤ b) ∧ Ext w w' := by
  have HS := hid hS.2
  have hn12 : n ≤ 12 := by have := hS.1; rw [L.len] at this; exact this
  have Hn := hid L.len
  have l2 := L.all; have l3 := L.size; have l5 := hid L.cnt; have lp := L.cs
  clear L hS
  go_enter Try.func69, Try.ntmps69
  go_wp2
  obtain ⟨w1, hw1⟩ : ∃ w1, w1 = w.alloc (.cells #[.slice none 0 0] 28) := ⟨_, rfl⟩
  obtain ⟨wb, hwb⟩ : ∃ wb, wb = (w1.alloc (.cells #[] 117)).alloc (.cells #[.slice (some ⟨w.heap.size + 1, 0, none⟩) 0 0] 28) := ⟨_, rfl⟩
  have e1 : Ext w w1 := by rw [hw1]; exact Ext.alloc _ _
  have hs1 : w1.heap.size = w.heap.size + 1 := by rw [hw1]; simp
  have b1 : HB w1 w.heap.size #[.slice none 0 0] 28 := by rw [hw1]; exact HB.new _ _ _
  obtain ⟨eb, hsb, c5, c6⟩ := box2 hwb
  rw [hs1] at c5 c6
  have hst : Cst0 w1 wb (w.heap.size + 1 + 1) 0 0 (some ⟨w.heap.size + 1, 0, none⟩) [] [] [] := ⟨c6, rfl, GrowO0.empty ⟨rfl, .inr ⟨w.heap.size + 1, 0, #[], rfl, by omega, c5, Nat.le_refl _, Nat.zero_le _, rfl, rfl⟩⟩, fun b hb => by simp at hb, eb, by omega⟩
  clear c5 c6 eb hsb
  subst hw1
  rw [← hwb]
  generalize hw1 : w.alloc (.cells #[.slice none 0 0] 28) = w1 at *
  clear hwb hw1
  go_loopw [4] (fun iv wr => ∃ (i m c8 : Nat) (q : Option Addr) (cs : List (List Value)) (bss : List (List Nat)), i ≤ n ∧ iv = .int .i64 i ∧ Cst0 w1 wr (w.heap.size + 1 + 1) m c8 q (cmpF L0 i) cs bss) (fun iv _ => n - (intOf iv).toNat)
  case atStart => exact ⟨0, 0, 0, _, [], [], by omega, rfl, hst⟩
  case round =>
    clear hst
    obtain ⟨i, m, c8, q, cs, bss, hi, rfl, hc⟩ := hrel
    have he := e1.trans hc.ext
    have g0 := he.cell f0
    by_cases hlt : i < n
    · have hil : i < L0.length := by rw [Hn.out]; exact hlt
      obtain ⟨ci, hci, ri⟩ := l2.get i L0[i] (by simp)
      have hs1 : p.isSome = true := lp.some_of l3 (by decide) (show 0 < css.length by rw [l5.out]; omega)
      have hp := lp.ext he
      have ri := Rep.ext he ri
      have one := ri.one
      obtain ⟨hw1, hw2⟩ := HS.out L0[i] (by simp)
      obtain ⟨pw, cw, pb, cb, uw, ub, rfl, ⟨x1, x2, x3⟩, ⟨y1, y2, y3⟩⟩ := lay_full ri
      have Hsucc := hid (cmpF_succ hil)
      have Hle := cmpF_len L0 i (by omega)
      have Hrd := relD_cmp L0 i (by omega)
      generalize L0[i] = d at *
      generalize cmpF L0 i = P at *
      have hm12 : m ≤ 12 := by have := hc.len; omega
      have C1 := hid (fun W (h : Ext wr W) => l02Own_any pw _ cw uw _ W rfl (by omega) x3 (x1.ext h) x2)
      have C2 := hid (fun W (h : Ext wr W) => l02Own_any pb _ cb ub _ W rfl (by omega) y3 (y1.ext h) y2)
      have CO0 := hid (fun W (h : Ext wr W) => l09Ones_any pw _ cw uw _ W rfl (by unfold maxLen; omega) (x1.ext h) x2)
      obtain ⟨d1, d2, d3, ws, bs, du⟩ := d
      dsimp only at hci one C1 C2 CO0 hw1 hw2 x1 x2 x3 y1 y2 y3 Hsucc ⊢
      generalize hlw0 : ws.length = lw at *
      generalize hlb0 : bs.length = lb at *
      have Hlw := hid hlw0
      have Hlb := hid hlb0
      clear hlw0 hlb0 x1 x2 x3 y1 y2 y3 ri hw2 hil
      obtain ⟨W1, hW1⟩ : ∃ W1, W1 = wr.alloc (.cells #[.int .i64 d1, .int .i64 d2, .int .i64 d3, .slice pw lw cw, .slice pb lb cb] 65) := ⟨_, rfl⟩
      have E1 : Ext wr W1 := by rw [hW1]; exact Ext.alloc _ _
      have b5 : HB W1 wr.heap.size #[.int .i64 d1, .int .i64 d2, .int .i64 d3, .slice pw lw cw, .slice pb lb cb] 65 := by rw [hW1]; exact HB.new _ _ _
      have k0 := HB.cell b5 0 rfl; have k1 := HB.cell b5 1 rfl; have k2 := HB.cell b5 2 rfl; have k3 := HB.cell b5 3 rfl; have k4 := HB.cell b5 4 rfl; have f0 := HB.cell (hc.out.ext E1) 0 rfl
      have z8 := (hc.out).cell 0 rfl
      by_cases hd2 : d1 = 2
      · subst hd2
        by_cases hm0 : m = 0
        · have hP : P = [] := List.eq_nil_of_length_eq_zero (by have := hc.len; omega)
          have hRel : reluB (lastP P) = false := by rw [hP]; rfl
          have hBare : bareB (lastP P) = false := by rw [hP]; rfl
          have hdm : decide ((0 : Int) < (m : Int)) = false := by simp; omega
          have hm1 : m < 1 := by omega
          clear hP Hrd hm0
          skip
          as_aux_lemma =>
            cases hon : onesB ws
            · have CO := hid (fun W h => by have := CO0.out W h; rw [hon] at this; exact this)
              have Hc := hid (cmp_push2 (P := P) (d := (2, d2, d3, ws, bs, du)) rfl hon hBare)
              clear hon CO0
              subst hW1
              go_wp2_with ((with_reducible show wpList _ _ _ (Oper.mk _ (Op.indexAddr _ _ _) _ _ _ _ :: Oper.mk _ (Op.load _ _) _ _ _ _ :: _) _ _); refine wl_idxloadE (s := shLayer) (j := i) rfl rfl rfl rfl (fun _ => rfl) rfl rfl rfl hp l3 l5.out hlt hs1 hci ?_; simp only [ofCs, Sh.agg, if_true])
              refine (CO.out _ E1).mono ?_
              rintro e w2 ⟨rfl, e2⟩
              have k0 := HB.cell (b5.ext e2) 0 rfl; have k1 := HB.cell (b5.ext e2) 1 rfl; have k2 := HB.cell (b5.ext e2) 2 rfl; have k3 := HB.cell (b5.ext e2) 3 rfl; have k4 := HB.cell (b5.ext e2) 4 rfl; have f0 := HB.cell (hc.out.ext (E1.trans e2)) 0 rfl
              skip
              go_wp2
              refine push14 _ w1 wr _ (w.heap.size + 1 + 1) wr.heap.size m c8 q P cs bss hc hm12 (E1.trans e2) 2 d2 d3 pw pb lw cw lb cb ws bs (b5.ext e2) C1 C2 Hlw Hlb _ _ _ _ _ _ _ _ _ _ _ _ _ _ _ _ _ _ _ _ _ _ _ _ _ _ _ _ _ _ _ _ _ _ _ _ _ _ _ _ _ _ _ _ _ _ _ _ _ _ _ _ _ _ _ _ _ _ _ _ _ _ _ _ _ _ _ _ _ _ _ _ _ _ _ _ _ _ _ _ _ _ _ _ _ _ _ _ _ _ _ _ _ _ _ _ _ _ _ _ _ _ _ _ _ _ _ _ _ _ _ _ _ _ _ _ _ _ _ _ _ _ _ _ _ _ _ _ _ _ _ _ _ _ _ _ _ _ _ _ _ _ _ _ _ _ _ _ _ _ _ _ _ _ _ ?_
              intro v137 v138 v139 v140 v141 v142 v143 v144 v145 v146 v147 v148 v149 v150 v151 v152 v153 v154 v155 w7 c6 g6 cs' bss' hc'
              go_wp2
              go_roundw
              case rel =>
                refine ⟨i + 1, m + 1, c6, some ⟨g6, 0, none⟩, cs', bss', by omega, by go_num, ?_⟩
                rw [Hsucc.out, Hc.out]
                exact hc'
              case measure => simp [intOf]; omega
            · have CO := hid (fun W h => by have := CO0.out W h; rw [hon] at this; exact this)
              have Hc := hid (cmp_skip2 (P := P) (d := (2, d2, d3, ws, bs, du)) rfl hon)
              clear hon CO0
              subst hW1
              go_wp2_with ((with_reducible show wpList _ _ _ (Oper.mk _ (Op.indexAddr _ _ _) _ _ _ _ :: Oper.mk _ (Op.load _ _) _ _ _ _ :: _) _ _); refine wl_idxloadE (s := shLayer) (j := i) rfl rfl rfl rfl (fun _ => rfl) rfl rfl rfl hp l3 l5.out hlt hs1 hci ?_; simp only [ofCs, Sh.agg, if_true])
              refine (CO.out _ E1).mono ?_
              rintro e w2 ⟨rfl, e2⟩
              have k0 := HB.cell (b5.ext e2) 0 rfl; have k1 := HB.cell (b5.ext e2) 1 rfl; have k2 := HB.cell (b5.ext e2) 2 rfl; have k3 := HB.cell (b5.ext e2) 3 rfl; have k4 := HB.cell (b5.ext e2) 4 rfl; have f0 := HB.cell (hc.out.ext (E1.trans e2)) 0 rfl
              skip
              go_wp2
              go_roundw
              case rel => exact ⟨i + 1, m, c8, q, cs, bss, by omega, by go_num, by rw [Hsucc.out, Hc.out]; exact hc.on (E1.trans e2)⟩
              case measure => simp [intOf]; omega
        have hm : 1 ≤ m := by omega
        obtain ⟨g, qw0, kw0, qb0, kb0, qz, kz, bw0, bb0, bz0, rfl, _, _, _, o3, _, v0, v5, v6⟩ := last_cells0 hc.grow hc.len hm
        have hrd : (lastP P).2.2.2.2.2.2.1 = true → (lastP P).1 = 0 := Hrd _ (lastP_mem (by have := hc.len; omega))
        have hdm : decide ((0 : Int) < (m : Int)) = true := by simp; omega
        obtain ⟨Lx, hLx⟩ : ∃ Lx, Lx = (m - 1) * 7 := ⟨_, rfl⟩
        rw [← hLx] at v0 v5 v6
        have HLx := hid hLx.symm
        have hRB : reluB (lastP P) = (decide ((lastP P).1 = 1) || decide ((lastP P).1 = 4) || (decide ((lastP P).1 = 0) && (lastP P).2.2.2.2.2.2.1)) := rfl
        have hBB : bareB (lastP P) = (decide ((lastP P).1 = 0) && decide (((lastP P).2.2.2.2.2.1 : List Nat).length = 0) && !(lastP P).2.2.2.2.2.2.1) := rfl
        obtain ⟨_, _, _, hls⟩ := rep_val o3.rep
        unfold maxLen at hls
        clear hLx Hrd hm0 o3
        generalize hsk : (lastP P).1 = sk at v0 hRB hBB hrd
        generalize hlz : ((lastP P).2.2.2.2.2.1 : List Nat).length = lz at v5 hBB hls
        generalize hr : (lastP P).2.2.2.2.2.2.1 = r at v6 hRB hBB hrd
        clear hsk hlz hr
        have z0 := E1.cell v0; have z5 := E1.cell v5; have z6 := E1.cell v6
        clear hRB hrd
        by_cases hk0 : sk = 0
        · subst hk0
          by_cases hz : lz = 0
          · subst hz
            cases r
            · have hBare : bareB (lastP P) = true := by rw [hBB]; rfl
              clear hBB
              as_aux_lemma =>
                cases hon : onesB ws
                · have CO := hid (fun W h => by have := CO0.out W h; rw [hon] at this; exact this)
                  have Hc := hid (cmp_scale (P := P) (d := (2, d2, d3, ws, bs, du)) rfl hon hBare)
                  clear hon CO0
                  subst hW1
                  go_wp2_with (first | ((with_reducible show wpList _ _ _ (Oper.mk _ (Op.indexAddr _ _ _) _ _ _ _ :: Oper.mk _ (Op.load _ _) _ _ _ _ :: _) _ _); refine wl_idxloadE (s := shLayer) (j := i) rfl rfl rfl rfl (fun _ => rfl) rfl rfl rfl hp l3 l5.out hlt hs1 hci ?_; simp only [ofCs, Sh.agg, if_true]) | ((with_reducible show wpList _ _ _ (Oper.mk _ (Op.indexAddr _ _ _) _ _ _ _ :: _) _ _); refine wl_idxEW (s := 7) (j := m - 1) rfl rfl rfl rfl (by omega) rfl (by omega) ?_; rw [adr_row, HLx.out]))
                  refine (CO.out _ E1).mono ?_
                  rintro e w2 ⟨rfl, e2⟩
                  have k0 := HB.cell (b5.ext e2) 0 rfl; have k1 := HB.cell (b5.ext e2) 1 rfl; have k2 := HB.cell (b5.ext e2) 2 rfl; have k3 := HB.cell (b5.ext e2) 3 rfl; have k4 := HB.cell (b5.ext e2) 4 rfl; have f0 := HB.cell (hc.out.ext (E1.trans e2)) 0 rfl
                  have z0 := (E1.trans e2).cell v0; have z5 := (E1.trans e2).cell v5; have z6 := (E1.trans e2).cell v6
                  go_wp2
                  have eD := (E1.trans e2).trans (Ext.drew _)
                  have t5 := HB.ext (b5.ext e2) (Ext.drew _)
                  have y0 := HB.cell (hc.out.ext eD) 0 rfl; have y1 := t5.cell 3 rfl
                  have Hwm := hid (show IntKind.i64.wrap ((m : Int) - 1) = ((m - 1 : Nat) : Int) by rw [show (m : Int) - 1 = ((m - 1 : Nat) : Int) by omega]; exact wrap_in _ (by omega) (by omega))
                  obtain ⟨F, hF⟩ : ∃ F : Option Tmp → World → World → Value → Prop, F = fun d w0 W u => ∃ q k, u = .slice q lw k ∧ IsOwnY [49] w0.heap.size (.sl .flt) W [.slice q lw k] ws := ⟨_, rfl⟩
                  have HF := hid hF
                  clear hF
                  refine wp_region_yt 9 (F := F) (by kernel_rfl) (by kernel_rfl) (by kernel_rfl) (by kernel_rfl) (by kernel_rfl) ?_
                  intro wf hwf
                  simp only [List.take_succ_cons, List.take_zero, List.drop_succ_cons, List.drop_zero]
                  repeat (first
                    | (refine x_skip rfl ?_; simp only [Act.put, ev_tmp, List.setIfInBounds_toArray, List.set_cons_succ, List.set_cons_zero, List.getD_cons_succ, List.getD_cons_zero])
                    | (refine x_mv rfl rfl rfl ?_; simp only [Act.put, ev_tmp, List.setIfInBounds_toArray, List.set_cons_succ, List.set_cons_zero, List.getD_cons_succ, List.getD_cons_zero])
                    | (refine x_as rfl rfl rfl ?_; simp only [Act.put, ev_tmp, List.setIfInBounds_toArray, List.set_cons_succ, List.set_cons_zero, List.getD_cons_succ, List.getD_cons_zero])
                    | ((with_reducible show wpX _ _ _ _ _ _ (Oper.mk _ (Op.call _) _ _ _ _ :: _) _); refine y_callK (f := 129) (args := #[.slice pw lw cw]) rfl rfl Try.func129 rfl (by kernel_rfl) ?_ ?_ ?_; (focus (simp [Act.eval]; done)); (focus (intro w1 hw1 hK; exact (by rw [HF.out]; exact (C1.out w1 (eD.trans hw1)).mono fun e w3 h => by obtain ⟨q, k, bs', g1, g2, g3, g4, g5, g6⟩ := retFl_thing3 Hlw.out h; exact ⟨_, g1, g5, q, k, rfl, bs', g2, g3, g4, g6⟩))); rintro u wa wb e0 hK e3 e4 hu; simp only [HF.out] at hu; obtain ⟨qx, kx, rfl, ox⟩ := hu; simp only [Act.put, ev_tmp, List.setIfInBounds_toArray, List.set_cons_succ, List.set_cons_zero, List.getD_cons_succ, List.getD_cons_zero])
                    | ((with_reducible show wpX _ _ _ _ _ _ (Oper.mk _ (Op.indexAddr _ _ _) _ _ _ _ :: _) _); refine x_idxE (s := 7) (j := m - 1) rfl rfl rfl rfl Hwm.out rfl (by omega) ?_; rw [adr_row, HLx.out]; simp only [Act.put, ev_tmp, List.setIfInBounds_toArray, List.set_cons_succ, List.set_cons_zero, List.getD_cons_succ, List.getD_cons_zero])
                    | (refine x_run rfl fun K hK w1 hw1 => ?_; have k0 := hw1.cell (y0); have k1 := hw1.cell (y1); go_simp; refine hK _ ?_; clear hK K k0 k1 hw1 w1))
                  refine x_nil ?_
                  obtain ⟨bx, p1, p2, p3, p4⟩ := ox
                  have eX := eD.trans hwf
                  have rowx := own_ext hc.row eX
                  have x1 := eD.size
                  have x2 := e0.size
                  go_wp2_with ((with_reducible show wpList _ _ _ (Oper.mk _ (Op.store _ _ _) _ _ _ _ :: _) _ _); refine wl_stRC (i := Lx + 5) rfl rfl rfl rfl rfl rowx (by have := HLx.out; omega) ?_; intro w9 own9 gr9)
                  go_roundw
                  case rel =>
                    rw [← HLx.out] at own9
                    obtain ⟨cs', bss', hc'⟩ := hc.scale eX hm (p1.ext e4) (fun b hb => by have := p3 b hb; omega) (p4.ext e4) own9 gr9
                    refine ⟨i + 1, m, c8, some ⟨g, 0, none⟩, cs', bss', by omega, by go_num, ?_⟩
                    rw [Hsucc.out, Hc.out, hc.len]
                    exact hc'
                  case measure => simp [intOf]; omega
                · have CO := hid (fun W h => by have := CO0.out W h; rw [hon] at this; exact this)
                  have Hc := hid (cmp_skip2 (P := P) (d := (2, d2, d3, ws, bs, du)) rfl hon)
                  clear hon CO0
                  subst hW1
                  go_wp2_with (first | ((with_reducible show wpList _ _ _ (Oper.mk _ (Op.indexAddr _ _ _) _ _ _ _ :: Oper.mk _ (Op.load _ _) _ _ _ _ :: _) _ _); refine wl_idxloadE (s := shLayer) (j := i) rfl rfl rfl rfl (fun _ => rfl) rfl rfl rfl hp l3 l5.out hlt hs1 hci ?_; simp only [ofCs, Sh.agg, if_true]) | ((with_reducible show wpList _ _ _ (Oper.mk _ (Op.indexAddr _ _ _) _ _ _ _ :: _) _ _); refine wl_idxEW (s := 7) (j := m - 1) rfl rfl rfl rfl (by omega) rfl (by omega) ?_; rw [adr_row, HLx.out]))
                  refine (CO.out _ E1).mono ?_
                  rintro e w2 ⟨rfl, e2⟩
                  have k0 := HB.cell (b5.ext e2) 0 rfl; have k1 := HB.cell (b5.ext e2) 1 rfl; have k2 := HB.cell (b5.ext e2) 2 rfl; have k3 := HB.cell (b5.ext e2) 3 rfl; have k4 := HB.cell (b5.ext e2) 4 rfl; have f0 := HB.cell (hc.out.ext (E1.trans e2)) 0 rfl
                  have z0 := (E1.trans e2).cell v0; have z5 := (E1.trans e2).cell v5; have z6 := (E1.trans e2).cell v6
                  go_wp2
                  go_roundw
                  case rel => exact ⟨i + 1, m, c8, (some ⟨g, 0, none⟩), cs, bss, by omega, by go_num, by rw [Hsucc.out, Hc.out]; exact hc.on (E1.trans e2)⟩
                  case measure => simp [intOf]; omega
            · have hBare : bareB (lastP P) = false := by rw [hBB]; rfl
              clear hBB
              as_aux_lemma =>
                cases hon : onesB ws
                · have CO := hid (fun W h => by have := CO0.out W h; rw [hon] at this; exact this)
                  have Hc := hid (cmp_push2 (P := P) (d := (2, d2, d3, ws, bs, du)) rfl hon hBare)
                  clear hon CO0
                  subst hW1
                  go_wp2_with (first | ((with_reducible show wpList _ _ _ (Oper.mk _ (Op.indexAddr _ _ _) _ _ _ _ :: Oper.mk _ (Op.load _ _) _ _ _ _ :: _) _ _); refine wl_idxloadE (s := shLayer) (j := i) rfl rfl rfl rfl (fun _ => rfl) rfl rfl rfl hp l3 l5.out hlt hs1 hci ?_; simp only [ofCs, Sh.agg, if_true]) | ((with_reducible show wpList _ _ _ (Oper.mk _ (Op.indexAddr _ _ _) _ _ _ _ :: _) _ _); refine wl_idxEW (s := 7) (j := m - 1) rfl rfl rfl rfl (by omega) rfl (by omega) ?_; rw [adr_row, HLx.out]))
                  refine (CO.out _ E1).mono ?_
                  rintro e w2 ⟨rfl, e2⟩
                  have k0 := HB.cell (b5.ext e2) 0 rfl; have k1 := HB.cell (b5.ext e2) 1 rfl; have k2 := HB.cell (b5.ext e2) 2 rfl; have k3 := HB.cell (b5.ext e2) 3 rfl; have k4 := HB.cell (b5.ext e2) 4 rfl; have f0 := HB.cell (hc.out.ext (E1.trans e2)) 0 rfl
                  have z0 := (E1.trans e2).cell v0; have z5 := (E1.trans e2).cell v5; have z6 := (E1.trans e2).cell v6
                  go_wp2
                  refine push14 _ w1 wr _ (w.heap.size + 1 + 1) wr.heap.size m c8 (some ⟨g, 0, none⟩) P cs bss hc hm12 (E1.trans e2) 2 d2 d3 pw pb lw cw lb cb ws bs (b5.ext e2) C1 C2 Hlw Hlb _ _ _ _ _ _ _ _ _ _ _ _ _ _ _ _ _ _ _ _ _ _ _ _ _ _ _ _ _ _ _ _ _ _ _ _ _ _ _ _ _ _ _ _ _ _ _ _ _ _ _ _ _ _ _ _ _ _ _ _ _ _ _ _ _ _ _ _ _ _ _ _ _ _ _ _ _ _ _ _ _ _ _ _ _ _ _ _ _ _ _ _ _ _ _ _ _ _ _ _ _ _ _ _ _ _ _ _ _ _ _ _ _ _ _ _ _ _ _ _ _ _ _ _ _ _ _ _ _ _ _ _ _ _ _ _ _ _ _ _ _ _ _ _ _ _ _ _ _ _ _ _ _ _ _ ?_
                  intro v137 v138 v139 v140 v141 v142 v143 v144 v145 v146 v147 v148 v149 v150 v151 v152 v153 v154 v155 w7 c6 g6 cs' bss' hc'
                  go_wp2
                  go_roundw
                  case rel =>
                    refine ⟨i + 1, m + 1, c6, some ⟨g6, 0, none⟩, cs', bss', by omega, by go_num, ?_⟩
                    rw [Hsucc.out, Hc.out]
                    exact hc'
                  case measure => simp [intOf]; omega
                · have CO := hid (fun W h => by have := CO0.out W h; rw [hon] at this; exact this)
                  have Hc := hid (cmp_skip2 (P := P) (d := (2, d2, d3, ws, bs, du)) rfl hon)
                  clear hon CO0
                  subst hW1
                  go_wp2_with (first | ((with_reducible show wpList _ _ _ (Oper.mk _ (Op.indexAddr _ _ _) _ _ _ _ :: Oper.mk _ (Op.load _ _) _ _ _ _ :: _) _ _); refine wl_idxloadE (s := shLayer) (j := i) rfl rfl rfl rfl (fun _ => rfl) rfl rfl rfl hp l3 l5.out hlt hs1 hci ?_; simp only [ofCs, Sh.agg, if_true]) | ((with_reducible show wpList _ _ _ (Oper.mk _ (Op.indexAddr _ _ _) _ _ _ _ :: _) _ _); refine wl_idxEW (s := 7) (j := m - 1) rfl rfl rfl rfl (by omega) rfl (by omega) ?_; rw [adr_row, HLx.out]))
                  refine (CO.out _ E1).mono ?_
                  rintro e w2 ⟨rfl, e2⟩
                  have k0 := HB.cell (b5.ext e2) 0 rfl; have k1 := HB.cell (b5.ext e2) 1 rfl; have k2 := HB.cell (b5.ext e2) 2 rfl; have k3 := HB.cell (b5.ext e2) 3 rfl; have k4 := HB.cell (b5.ext e2) 4 rfl; have f0 := HB.cell (hc.out.ext (E1.trans e2)) 0 rfl
                  have z0 := (E1.trans e2).cell v0; have z5 := (E1.trans e2).cell v5; have z6 := (E1.trans e2).cell v6
                  go_wp2
                  go_roundw
                  case rel => exact ⟨i + 1, m, c8, (some ⟨g, 0, none⟩), cs, bss, by omega, by go_num, by rw [Hsucc.out, Hc.out]; exact hc.on (E1.trans e2)⟩
                  case measure => simp [intOf]; omega
          · have Qz := beq_f (show ¬ (lz : Int) = 0 by omega)
            have hBare : bareB (lastP P) = false := by rw [hBB, decide_eq_false hz]; rfl
            clear hBB
            as_aux_lemma =>
              cases hon : onesB ws
              · have CO := hid (fun W h => by have := CO0.out W h; rw [hon] at this; exact this)
                have Hc := hid (cmp_push2 (P := P) (d := (2, d2, d3, ws, bs, du)) rfl hon hBare)
                clear hon CO0
                subst hW1
                go_wp2_with (first | ((with_reducible show wpList _ _ _ (Oper.mk _ (Op.indexAddr _ _ _) _ _ _ _ :: Oper.mk _ (Op.load _ _) _ _ _ _ :: _) _ _); refine wl_idxloadE (s := shLayer) (j := i) rfl rfl rfl rfl (fun _ => rfl) rfl rfl rfl hp l3 l5.out hlt hs1 hci ?_; simp only [ofCs, Sh.agg, if_true]) | ((with_reducible show wpList _ _ _ (Oper.mk _ (Op.indexAddr _ _ _) _ _ _ _ :: _) _ _); refine wl_idxEW (s := 7) (j := m - 1) rfl rfl rfl rfl (by omega) rfl (by omega) ?_; rw [adr_row, HLx.out]))
                refine (CO.out _ E1).mono ?_
                rintro e w2 ⟨rfl, e2⟩
                have k0 := HB.cell (b5.ext e2) 0 rfl; have k1 := HB.cell (b5.ext e2) 1 rfl; have k2 := HB.cell (b5.ext e2) 2 rfl; have k3 := HB.cell (b5.ext e2) 3 rfl; have k4 := HB.cell (b5.ext e2) 4 rfl; have f0 := HB.cell (hc.out.ext (E1.trans e2)) 0 rfl
                have z0 := (E1.trans e2).cell v0; have z5 := (E1.trans e2).cell v5; have z6 := (E1.trans e2).cell v6
                go_wp2
                refine push14 _ w1 wr _ (w.heap.size + 1 + 1) wr.heap.size m c8 (some ⟨g, 0, none⟩) P cs bss hc hm12 (E1.trans e2) 2 d2 d3 pw pb lw cw lb cb ws bs (b5.ext e2) C1 C2 Hlw Hlb _ _ _ _ _ _ _ _ _ _ _ _ _ _ _ _ _ _ _ _ _ _ _ _ _ _ _ _ _ _ _ _ _ _ _ _ _ _ _ _ _ _ _ _ _ _ _ _ _ _ _ _ _ _ _ _ _ _ _ _ _ _ _ _ _ _ _ _ _ _ _ _ _ _ _ _ _ _ _ _ _ _ _ _ _ _ _ _ _ _ _ _ _ _ _ _ _ _ _ _ _ _ _ _ _ _ _ _ _ _ _ _ _ _ _ _ _ _ _ _ _ _ _ _ _ _ _ _ _ _ _ _ _ _ _ _ _ _ _ _ _ _ _ _ _ _ _ _ _ _ _ _ _ _ _ ?_
                intro v137 v138 v139 v140 v141 v142 v143 v144 v145 v146 v147 v148 v149 v150 v151 v152 v153 v154 v155 w7 c6 g6 cs' bss' hc'
                go_wp2
                go_roundw
                case rel =>
                  refine ⟨i + 1, m + 1, c6, some ⟨g6, 0, none⟩, cs', bss', by omega, by go_num, ?_⟩
                  rw [Hsucc.out, Hc.out]
                  exact hc'
                case measure => simp [intOf]; omega
              · have CO := hid (fun W h => by have := CO0.out W h; rw [hon] at this; exact this)
                have Hc := hid (cmp_skip2 (P := P) (d := (2, d2, d3, ws, bs, du)) rfl hon)
                clear hon CO0
                subst hW1
                go_wp2_with (first | ((with_reducible show wpList _ _ _ (Oper.mk _ (Op.indexAddr _ _ _) _ _ _ _ :: Oper.mk _ (Op.load _ _) _ _ _ _ :: _) _ _); refine wl_idxloadE (s := shLayer) (j := i) rfl rfl rfl rfl (fun _ => rfl) rfl rfl rfl hp l3 l5.out hlt hs1 hci ?_; simp only [ofCs, Sh.agg, if_true]) | ((with_reducible show wpList _ _ _ (Oper.mk _ (Op.indexAddr _ _ _) _ _ _ _ :: _) _ _); refine wl_idxEW (s := 7) (j := m - 1) rfl rfl rfl rfl (by omega) rfl (by omega) ?_; rw [adr_row, HLx.out]))
                refine (CO.out _ E1).mono ?_
                rintro e w2 ⟨rfl, e2⟩
                have k0 := HB.cell (b5.ext e2) 0 rfl; have k1 := HB.cell (b5.ext e2) 1 rfl; have k2 := HB.cell (b5.ext e2) 2 rfl; have k3 := HB.cell (b5.ext e2) 3 rfl; have k4 := HB.cell (b5.ext e2) 4 rfl; have f0 := HB.cell (hc.out.ext (E1.trans e2)) 0 rfl
                have z0 := (E1.trans e2).cell v0; have z5 := (E1.trans e2).cell v5; have z6 := (E1.trans e2).cell v6
                go_wp2
                go_roundw
                case rel => exact ⟨i + 1, m, c8, (some ⟨g, 0, none⟩), cs, bss, by omega, by go_num, by rw [Hsucc.out, Hc.out]; exact hc.on (E1.trans e2)⟩
                case measure => simp [intOf]; omega
        · have Q0 := beq_f hk0
          have hBare : bareB (lastP P) = false := by rw [hBB, decide_eq_false hk0]; rfl
          clear hBB
          as_aux_lemma =>
            cases hon : onesB ws
            · have CO := hid (fun W h => by have := CO0.out W h; rw [hon] at this; exact this)
              have Hc := hid (cmp_push2 (P := P) (d := (2, d2, d3, ws, bs, du)) rfl hon hBare)
              clear hon CO0
              subst hW1
              go_wp2_with (first | ((with_reducible show wpList _ _ _ (Oper.mk _ (Op.indexAddr _ _ _) _ _ _ _ :: Oper.mk _ (Op.load _ _) _ _ _ _ :: _) _ _); refine wl_idxloadE (s := shLayer) (j := i) rfl rfl rfl rfl (fun _ => rfl) rfl rfl rfl hp l3 l5.out hlt hs1 hci ?_; simp only [ofCs, Sh.agg, if_true]) | ((with_reducible show wpList _ _ _ (Oper.mk _ (Op.indexAddr _ _ _) _ _ _ _ :: _) _ _); refine wl_idxEW (s := 7) (j := m - 1) rfl rfl rfl rfl (by omega) rfl (by omega) ?_; rw [adr_row, HLx.out]))
              refine (CO.out _ E1).mono ?_
              rintro e w2 ⟨rfl, e2⟩
              have k0 := HB.cell (b5.ext e2) 0 rfl; have k1 := HB.cell (b5.ext e2) 1 rfl; have k2 := HB.cell (b5.ext e2) 2 rfl; have k3 := HB.cell (b5.ext e2) 3 rfl; have k4 := HB.cell (b5.ext e2) 4 rfl; have f0 := HB.cell (hc.out.ext (E1.trans e2)) 0 rfl
              have z0 := (E1.trans e2).cell v0; have z5 := (E1.trans e2).cell v5; have z6 := (E1.trans e2).cell v6
              go_wp2
              refine push14 _ w1 wr _ (w.heap.size + 1 + 1) wr.heap.size m c8 (some ⟨g, 0, none⟩) P cs bss hc hm12 (E1.trans e2) 2 d2 d3 pw pb lw cw lb cb ws bs (b5.ext e2) C1 C2 Hlw Hlb _ _ _ _ _ _ _ _ _ _ _ _ _ _ _ _ _ _ _ _ _ _ _ _ _ _ _ _ _ _ _ _ _ _ _ _ _ _ _ _ _ _ _ _ _ _ _ _ _ _ _ _ _ _ _ _ _ _ _ _ _ _ _ _ _ _ _ _ _ _ _ _ _ _ _ _ _ _ _ _ _ _ _ _ _ _ _ _ _ _ _ _ _ _ _ _ _ _ _ _ _ _ _ _ _ _ _ _ _ _ _ _ _ _ _ _ _ _ _ _ _ _ _ _ _ _ _ _ _ _ _ _ _ _ _ _ _ _ _ _ _ _ _ _ _ _ _ _ _ _ _ _ _ _ _ ?_
              intro v137 v138 v139 v140 v141 v142 v143 v144 v145 v146 v147 v148 v149 v150 v151 v152 v153 v154 v155 w7 c6 g6 cs' bss' hc'
              go_wp2
              go_roundw
              case rel =>
                refine ⟨i + 1, m + 1, c6, some ⟨g6, 0, none⟩, cs', bss', by omega, by go_num, ?_⟩
                rw [Hsucc.out, Hc.out]
                exact hc'
              case measure => simp [intOf]; omega
            · have CO := hid (fun W h => by have := CO0.out W h; rw [hon] at this; exact this)
              have Hc := hid (cmp_skip2 (P := P) (d := (2, d2, d3, ws, bs, du)) rfl hon)
              clear hon CO0
              subst hW1
              go_wp2_with (first | ((with_reducible show wpList _ _ _ (Oper.mk _ (Op.indexAddr _ _ _) _ _ _ _ :: Oper.mk _ (Op.load _ _) _ _ _ _ :: _) _ _); refine wl_idxloadE (s := shLayer) (j := i) rfl rfl rfl rfl (fun _ => rfl) rfl rfl rfl hp l3 l5.out hlt hs1 hci ?_; simp only [ofCs, Sh.agg, if_true]) | ((with_reducible show wpList _ _ _ (Oper.mk _ (Op.indexAddr _ _ _) _ _ _ _ :: _) _ _); refine wl_idxEW (s := 7) (j := m - 1) rfl rfl rfl rfl (by omega) rfl (by omega) ?_; rw [adr_row, HLx.out]))
              refine (CO.out _ E1).mono ?_
              rintro e w2 ⟨rfl, e2⟩
              have k0 := HB.cell (b5.ext e2) 0 rfl; have k1 := HB.cell (b5.ext e2) 1 rfl; have k2 := HB.cell (b5.ext e2) 2 rfl; have k3 := HB.cell (b5.ext e2) 3 rfl; have k4 := HB.cell (b5.ext e2) 4 rfl; have f0 := HB.cell (hc.out.ext (E1.trans e2)) 0 rfl
              have z0 := (E1.trans e2).cell v0; have z5 := (E1.trans e2).cell v5; have z6 := (E1.trans e2).cell v6
              go_wp2
              go_roundw
              case rel => exact ⟨i + 1, m, c8, (some ⟨g, 0, none⟩), cs, bss, by omega, by go_num, by rw [Hsucc.out, Hc.out]; exact hc.on (E1.trans e2)⟩
              case measure => simp [intOf]; omega
      by_cases hd1 : d1 = 1
      · subst hd1
        by_cases hm0 : m = 0
        · have hP : P = [] := List.eq_nil_of_length_eq_zero (by have := hc.len; omega)
          have hRel : reluB (lastP P) = false := by rw [hP]; rfl
          have hBare : bareB (lastP P) = false := by rw [hP]; rfl
          have hdm : decide ((0 : Int) < (m : Int)) = false := by simp; omega
          have hm1 : m < 1 := by omega
          clear hP Hrd hm0
          skip
          as_aux_lemma =>
            clear CO0
            have Hc := hid (cmp_push1 (P := P) (d := (1, d2, d3, ws, bs, du)) rfl hRel hBare)
            subst hW1
            go_wp2_with ((with_reducible show wpList _ _ _ (Oper.mk _ (Op.indexAddr _ _ _) _ _ _ _ :: Oper.mk _ (Op.load _ _) _ _ _ _ :: _) _ _); refine wl_idxloadE (s := shLayer) (j := i) rfl rfl rfl rfl (fun _ => rfl) rfl rfl rfl hp l3 l5.out hlt hs1 hci ?_; simp only [ofCs, Sh.agg, if_true])
            refine push14 _ w1 wr _ (w.heap.size + 1 + 1) wr.heap.size m c8 q P cs bss hc hm12 E1 1 d2 d3 pw pb lw cw lb cb ws bs b5 C1 C2 Hlw Hlb _ _ _ _ _ _ _ _ _ _ _ _ _ _ _ _ _ _ _ _ _ _ _ _ _ _ _ _ _ _ _ _ _ _ _ _ _ _ _ _ _ _ _ _ _ _ _ _ _ _ _ _ _ _ _ _ _ _ _ _ _ _ _ _ _ _ _ _ _ _ _ _ _ _ _ _ _ _ _ _ _ _ _ _ _ _ _ _ _ _ _ _ _ _ _ _ _ _ _ _ _ _ _ _ _ _ _ _ _ _ _ _ _ _ _ _ _ _ _ _ _ _ _ _ _ _ _ _ _ _ _ _ _ _ _ _ _ _ _ _ _ _ _ _ _ _ _ _ _ _ _ _ _ _ _ ?_
            intro v137 v138 v139 v140 v141 v142 v143 v144 v145 v146 v147 v148 v149 v150 v151 v152 v153 v154 v155 w7 c6 g6 cs' bss' hc'
            go_wp2
            go_roundw
            case rel =>
              refine ⟨i + 1, m + 1, c6, some ⟨g6, 0, none⟩, cs', bss', by omega, by go_num, ?_⟩
              rw [Hsucc.out, Hc.out]
              exact hc'
            case measure => simp [intOf]; omega
        have hm : 1 ≤ m := by omega
        obtain ⟨g, qw0, kw0, qb0, kb0, qz, kz, bw0, bb0, bz0, rfl, _, _, _, o3, _, v0, v5, v6⟩ := last_cells0 hc.grow hc.len hm
        have hrd : (lastP P).2.2.2.2.2.2.1 = true → (lastP P).1 = 0 := Hrd _ (lastP_mem (by have := hc.len; omega))
        have hdm : decide ((0 : Int) < (m : Int)) = true := by simp; omega
        obtain ⟨Lx, hLx⟩ : ∃ Lx, Lx = (m - 1) * 7 := ⟨_, rfl⟩
        rw [← hLx] at v0 v5 v6
        have HLx := hid hLx.symm
        have hRB : reluB (lastP P) = (decide ((lastP P).1 = 1) || decide ((lastP P).1 = 4) || (decide ((lastP P).1 = 0) && (lastP P).2.2.2.2.2.2.1)) := rfl
        have hBB : bareB (lastP P) = (decide ((lastP P).1 = 0) && decide (((lastP P).2.2.2.2.2.1 : List Nat).length = 0) && !(lastP P).2.2.2.2.2.2.1) := rfl
        obtain ⟨_, _, _, hls⟩ := rep_val o3.rep
        unfold maxLen at hls
        clear hLx Hrd hm0 o3
        generalize hsk : (lastP P).1 = sk at v0 hRB hBB hrd
        generalize hlz : ((lastP P).2.2.2.2.2.1 : List Nat).length = lz at v5 hBB hls
        generalize hr : (lastP P).2.2.2.2.2.2.1 = r at v6 hRB hBB hrd
        clear hsk hlz hr
        have z0 := E1.cell v0; have z5 := E1.cell v5; have z6 := E1.cell v6
        by_cases hk0 : sk = 0
        · subst hk0
          cases r
          · by_cases hz : lz = 0
            · subst hz
              have hRel : reluB (lastP P) = false := by rw [hRB]; rfl
              have hBare : bareB (lastP P) = true := by rw [hBB]; rfl
              clear hRB hBB hrd
              as_aux_lemma =>
                clear CO0
                have Hc := hid (cmp_relu (P := P) (d := (1, d2, d3, ws, bs, du)) rfl hRel hBare)
                subst hW1
                have rowx := own_ext hc.row E1
                go_wp2_with (first | ((with_reducible show wpList _ _ _ (Oper.mk _ (Op.indexAddr _ _ _) _ _ _ _ :: Oper.mk _ (Op.load _ _) _ _ _ _ :: _) _ _); refine wl_idxloadE (s := shLayer) (j := i) rfl rfl rfl rfl (fun _ => rfl) rfl rfl rfl hp l3 l5.out hlt hs1 hci ?_; simp only [ofCs, Sh.agg, if_true]) | ((with_reducible show wpList _ _ _ (Oper.mk _ (Op.indexAddr _ _ _) _ _ _ _ :: _) _ _); refine wl_idxEW (s := 7) (j := m - 1) rfl rfl rfl rfl (by omega) rfl (by omega) ?_; rw [adr_row, HLx.out]) | ((with_reducible show wpList _ _ _ (Oper.mk _ (Op.store _ _ _) _ _ _ _ :: _) _ _); refine wl_stRC (i := Lx + 6) rfl rfl rfl rfl rfl rowx (by have := HLx.out; omega) ?_; intro w9 own9 gr9))
                go_roundw
                case rel =>
                  rw [← HLx.out] at own9
                  obtain ⟨cs', hc'⟩ := hc.relu E1 hm own9 gr9
                  refine ⟨i + 1, m, c8, some ⟨g, 0, none⟩, cs', bss, by omega, by go_num, ?_⟩
                  rw [Hsucc.out, Hc.out, hc.len]
                  exact hc'
                case measure => simp [intOf]; omega
            · have hRel : reluB (lastP P) = false := by rw [hRB]; rfl
              have hBare : bareB (lastP P) = false := by rw [hBB, decide_eq_false hz]; rfl
              have Qz := beq_f (show ¬ (lz : Int) = 0 by omega)
              clear hRB hBB hrd
              as_aux_lemma =>
                clear CO0
                have Hc := hid (cmp_push1 (P := P) (d := (1, d2, d3, ws, bs, du)) rfl hRel hBare)
                subst hW1
                go_wp2_with (first | ((with_reducible show wpList _ _ _ (Oper.mk _ (Op.indexAddr _ _ _) _ _ _ _ :: Oper.mk _ (Op.load _ _) _ _ _ _ :: _) _ _); refine wl_idxloadE (s := shLayer) (j := i) rfl rfl rfl rfl (fun _ => rfl) rfl rfl rfl hp l3 l5.out hlt hs1 hci ?_; simp only [ofCs, Sh.agg, if_true]) | ((with_reducible show wpList _ _ _ (Oper.mk _ (Op.indexAddr _ _ _) _ _ _ _ :: _) _ _); refine wl_idxEW (s := 7) (j := m - 1) rfl rfl rfl rfl (by omega) rfl (by omega) ?_; rw [adr_row, HLx.out]))
                refine push14 _ w1 wr _ (w.heap.size + 1 + 1) wr.heap.size m c8 (some ⟨g, 0, none⟩) P cs bss hc hm12 E1 1 d2 d3 pw pb lw cw lb cb ws bs b5 C1 C2 Hlw Hlb _ _ _ _ _ _ _ _ _ _ _ _ _ _ _ _ _ _ _ _ _ _ _ _ _ _ _ _ _ _ _ _ _ _ _ _ _ _ _ _ _ _ _ _ _ _ _ _ _ _ _ _ _ _ _ _ _ _ _ _ _ _ _ _ _ _ _ _ _ _ _ _ _ _ _ _ _ _ _ _ _ _ _ _ _ _ _ _ _ _ _ _ _ _ _ _ _ _ _ _ _ _ _ _ _ _ _ _ _ _ _ _ _ _ _ _ _ _ _ _ _ _ _ _ _ _ _ _ _ _ _ _ _ _ _ _ _ _ _ _ _ _ _ _ _ _ _ _ _ _ _ _ _ _ _ ?_
                intro v137 v138 v139 v140 v141 v142 v143 v144 v145 v146 v147 v148 v149 v150 v151 v152 v153 v154 v155 w7 c6 g6 cs' bss' hc'
                go_wp2
                go_roundw
                case rel =>
                  refine ⟨i + 1, m + 1, c6, some ⟨g6, 0, none⟩, cs', bss', by omega, by go_num, ?_⟩
                  rw [Hsucc.out, Hc.out]
                  exact hc'
                case measure => simp [intOf]; omega
          · have hRel : reluB (lastP P) = true := by rw [hRB]; rfl
            clear hRB hBB hrd
            by_cases hz : lz = 0
            · subst hz
              as_aux_lemma =>
                clear CO0
                have Hc := hid (cmp_skip1 (P := P) (d := (1, d2, d3, ws, bs, du)) rfl hRel)
                subst hW1
                go_wp2_with (first | ((with_reducible show wpList _ _ _ (Oper.mk _ (Op.indexAddr _ _ _) _ _ _ _ :: Oper.mk _ (Op.load _ _) _ _ _ _ :: _) _ _); refine wl_idxloadE (s := shLayer) (j := i) rfl rfl rfl rfl (fun _ => rfl) rfl rfl rfl hp l3 l5.out hlt hs1 hci ?_; simp only [ofCs, Sh.agg, if_true]) | ((with_reducible show wpList _ _ _ (Oper.mk _ (Op.indexAddr _ _ _) _ _ _ _ :: _) _ _); refine wl_idxEW (s := 7) (j := m - 1) rfl rfl rfl rfl (by omega) rfl (by omega) ?_; rw [adr_row, HLx.out]))
                go_roundw
                case rel => exact ⟨i + 1, m, c8, (some ⟨g, 0, none⟩), cs, bss, by omega, by go_num, by rw [Hsucc.out, Hc.out]; exact hc.on E1⟩
                case measure => simp [intOf]; omega
            · have Qz := beq_f (show ¬ (lz : Int) = 0 by omega)
              as_aux_lemma =>
                clear CO0
                have Hc := hid (cmp_skip1 (P := P) (d := (1, d2, d3, ws, bs, du)) rfl hRel)
                subst hW1
                go_wp2_with (first | ((with_reducible show wpList _ _ _ (Oper.mk _ (Op.indexAddr _ _ _) _ _ _ _ :: Oper.mk _ (Op.load _ _) _ _ _ _ :: _) _ _); refine wl_idxloadE (s := shLayer) (j := i) rfl rfl rfl rfl (fun _ => rfl) rfl rfl rfl hp l3 l5.out hlt hs1 hci ?_; simp only [ofCs, Sh.agg, if_true]) | ((with_reducible show wpList _ _ _ (Oper.mk _ (Op.indexAddr _ _ _) _ _ _ _ :: _) _ _); refine wl_idxEW (s := 7) (j := m - 1) rfl rfl rfl rfl (by omega) rfl (by omega) ?_; rw [adr_row, HLx.out]))
                go_roundw
                case rel => exact ⟨i + 1, m, c8, (some ⟨g, 0, none⟩), cs, bss, by omega, by go_num, by rw [Hsucc.out, Hc.out]; exact hc.on E1⟩
                case measure => simp [intOf]; omega
        · have hr0 : r = false := by cases r; rfl; exact absurd (hrd rfl) hk0
          subst hr0
          have Q0 := beq_f hk0
          by_cases hk1 : sk = 1
          · subst hk1
            have hRel : reluB (lastP P) = true := by rw [hRB]; rfl
            clear hRB hBB hrd
            as_aux_lemma =>
              clear CO0
              have Hc := hid (cmp_skip1 (P := P) (d := (1, d2, d3, ws, bs, du)) rfl hRel)
              subst hW1
              go_wp2_with (first | ((with_reducible show wpList _ _ _ (Oper.mk _ (Op.indexAddr _ _ _) _ _ _ _ :: Oper.mk _ (Op.load _ _) _ _ _ _ :: _) _ _); refine wl_idxloadE (s := shLayer) (j := i) rfl rfl rfl rfl (fun _ => rfl) rfl rfl rfl hp l3 l5.out hlt hs1 hci ?_; simp only [ofCs, Sh.agg, if_true]) | ((with_reducible show wpList _ _ _ (Oper.mk _ (Op.indexAddr _ _ _) _ _ _ _ :: _) _ _); refine wl_idxEW (s := 7) (j := m - 1) rfl rfl rfl rfl (by omega) rfl (by omega) ?_; rw [adr_row, HLx.out]))
              go_roundw
              case rel => exact ⟨i + 1, m, c8, (some ⟨g, 0, none⟩), cs, bss, by omega, by go_num, by rw [Hsucc.out, Hc.out]; exact hc.on E1⟩
              case measure => simp [intOf]; omega
          · have Q1k := beq_f hk1
            by_cases hk4 : sk = 4
            · subst hk4
              have hRel : reluB (lastP P) = true := by rw [hRB]; rfl
              clear hRB hBB hrd
              as_aux_lemma =>
                clear CO0
                have Hc := hid (cmp_skip1 (P := P) (d := (1, d2, d3, ws, bs, du)) rfl hRel)
                subst hW1
                go_wp2_with (first | ((with_reducible show wpList _ _ _ (Oper.mk _ (Op.indexAddr _ _ _) _ _ _ _ :: Oper.mk _ (Op.load _ _) _ _ _ _ :: _) _ _); refine wl_idxloadE (s := shLayer) (j := i) rfl rfl rfl rfl (fun _ => rfl) rfl rfl rfl hp l3 l5.out hlt hs1 hci ?_; simp only [ofCs, Sh.agg, if_true]) | ((with_reducible show wpList _ _ _ (Oper.mk _ (Op.indexAddr _ _ _) _ _ _ _ :: _) _ _); refine wl_idxEW (s := 7) (j := m - 1) rfl rfl rfl rfl (by omega) rfl (by omega) ?_; rw [adr_row, HLx.out]))
                go_roundw
                case rel => exact ⟨i + 1, m, c8, (some ⟨g, 0, none⟩), cs, bss, by omega, by go_num, by rw [Hsucc.out, Hc.out]; exact hc.on E1⟩
                case measure => simp [intOf]; omega
            · have Q4k := beq_f hk4
              have hRel : reluB (lastP P) = false := by rw [hRB, decide_eq_false hk0, decide_eq_false hk1, decide_eq_false hk4]; rfl
              have hBare : bareB (lastP P) = false := by rw [hBB, decide_eq_false hk0]; rfl
              clear hRB hBB hrd
              as_aux_lemma =>
                clear CO0
                have Hc := hid (cmp_push1 (P := P) (d := (1, d2, d3, ws, bs, du)) rfl hRel hBare)
                subst hW1
                go_wp2_with (first | ((with_reducible show wpList _ _ _ (Oper.mk _ (Op.indexAddr _ _ _) _ _ _ _ :: Oper.mk _ (Op.load _ _) _ _ _ _ :: _) _ _); refine wl_idxloadE (s := shLayer) (j := i) rfl rfl rfl rfl (fun _ => rfl) rfl rfl rfl hp l3 l5.out hlt hs1 hci ?_; simp only [ofCs, Sh.agg, if_true]) | ((with_reducible show wpList _ _ _ (Oper.mk _ (Op.indexAddr _ _ _) _ _ _ _ :: _) _ _); refine wl_idxEW (s := 7) (j := m - 1) rfl rfl rfl rfl (by omega) rfl (by omega) ?_; rw [adr_row, HLx.out]))
                refine push14 _ w1 wr _ (w.heap.size + 1 + 1) wr.heap.size m c8 (some ⟨g, 0, none⟩) P cs bss hc hm12 E1 1 d2 d3 pw pb lw cw lb cb ws bs b5 C1 C2 Hlw Hlb _ _ _ _ _ _ _ _ _ _ _ _ _ _ _ _ _ _ _ _ _ _ _ _ _ _ _ _ _ _ _ _ _ _ _ _ _ _ _ _ _ _ _ _ _ _ _ _ _ _ _ _ _ _ _ _ _ _ _ _ _ _ _ _ _ _ _ _ _ _ _ _ _ _ _ _ _ _ _ _ _ _ _ _ _ _ _ _ _ _ _ _ _ _ _ _ _ _ _ _ _ _ _ _ _ _ _ _ _ _ _ _ _ _ _ _ _ _ _ _ _ _ _ _ _ _ _ _ _ _ _ _ _ _ _ _ _ _ _ _ _ _ _ _ _ _ _ _ _ _ _ _ _ _ _ ?_
                intro v137 v138 v139 v140 v141 v142 v143 v144 v145 v146 v147 v148 v149 v150 v151 v152 v153 v154 v155 w7 c6 g6 cs' bss' hc'
                go_wp2
                go_roundw
                case rel =>
                  refine ⟨i + 1, m + 1, c6, some ⟨g6, 0, none⟩, cs', bss', by omega, by go_num, ?_⟩
                  rw [Hsucc.out, Hc.out]
                  exact hc'
                case measure => simp [intOf]; omega
      by_cases hm0 : m = 0
      · have hP : P = [] := List.eq_nil_of_length_eq_zero (by have := hc.len; omega)
        have hRel : reluB (lastP P) = false := by rw [hP]; rfl
        have hBare : bareB (lastP P) = false := by rw [hP]; rfl
        have hdm : decide ((0 : Int) < (m : Int)) = false := by simp; omega
        have hm1 : m < 1 := by omega
        clear hP Hrd hm0
        skip
        as_aux_lemma =>
          clear CO0
          have Hc := hid (cmp_push0 (P := P) (d := (d1, d2, d3, ws, bs, du)) hd1 hd2)
          have Q1 := beq_f hd1
          have Q2 := beq_f hd2
          subst hW1
          go_wp2_with ((with_reducible show wpList _ _ _ (Oper.mk _ (Op.indexAddr _ _ _) _ _ _ _ :: Oper.mk _ (Op.load _ _) _ _ _ _ :: _) _ _); refine wl_idxloadE (s := shLayer) (j := i) rfl rfl rfl rfl (fun _ => rfl) rfl rfl rfl hp l3 l5.out hlt hs1 hci ?_; simp only [ofCs, Sh.agg, if_true])
          refine push14 _ w1 wr _ (w.heap.size + 1 + 1) wr.heap.size m c8 q P cs bss hc hm12 E1 d1 d2 d3 pw pb lw cw lb cb ws bs b5 C1 C2 Hlw Hlb _ _ _ _ _ _ _ _ _ _ _ _ _ _ _ _ _ _ _ _ _ _ _ _ _ _ _ _ _ _ _ _ _ _ _ _ _ _ _ _ _ _ _ _ _ _ _ _ _ _ _ _ _ _ _ _ _ _ _ _ _ _ _ _ _ _ _ _ _ _ _ _ _ _ _ _ _ _ _ _ _ _ _ _ _ _ _ _ _ _ _ _ _ _ _ _ _ _ _ _ _ _ _ _ _ _ _ _ _ _ _ _ _ _ _ _ _ _ _ _ _ _ _ _ _ _ _ _ _ _ _ _ _ _ _ _ _ _ _ _ _ _ _ _ _ _ _ _ _ _ _ _ _ _ _ ?_
          intro v137 v138 v139 v140 v141 v142 v143 v144 v145 v146 v147 v148 v149 v150 v151 v152 v153 v154 v155 w7 c6 g6 cs' bss' hc'
          go_wp2
          go_roundw
          case rel =>
            refine ⟨i + 1, m + 1, c6, some ⟨g6, 0, none⟩, cs', bss', by omega, by go_num, ?_⟩
            rw [Hsucc.out, Hc.out]
            exact hc'
          case measure => simp [intOf]; omega
      have hm : 1 ≤ m := by omega
      obtain ⟨g, qw0, kw0, qb0, kb0, qz, kz, bw0, bb0, bz0, rfl, _, _, _, o3, _, v0, v5, v6⟩ := last_cells0 hc.grow hc.len hm
      have hrd : (lastP P).2.2.2.2.2.2.1 = true → (lastP P).1 = 0 := Hrd _ (lastP_mem (by have := hc.len; omega))
      have hdm : decide ((0 : Int) < (m : Int)) = true := by simp; omega
      obtain ⟨Lx, hLx⟩ : ∃ Lx, Lx = (m - 1) * 7 := ⟨_, rfl⟩
      rw [← hLx] at v0 v5 v6
      have HLx := hid hLx.symm
      have hRB : reluB (lastP P) = (decide ((lastP P).1 = 1) || decide ((lastP P).1 = 4) || (decide ((lastP P).1 = 0) && (lastP P).2.2.2.2.2.2.1)) := rfl
      have hBB : bareB (lastP P) = (decide ((lastP P).1 = 0) && decide (((lastP P).2.2.2.2.2.1 : List Nat).length = 0) && !(lastP P).2.2.2.2.2.2.1) := rfl
      obtain ⟨_, _, _, hls⟩ := rep_val o3.rep
      unfold maxLen at hls
      clear hLx Hrd hm0 o3
      generalize hsk : (lastP P).1 = sk at v0 hRB hBB hrd
      generalize hlz : ((lastP P).2.2.2.2.2.1 : List Nat).length = lz at v5 hBB hls
      generalize hr : (lastP P).2.2.2.2.2.2.1 = r at v6 hRB hBB hrd
      clear hsk hlz hr
      have z0 := E1.cell v0; have z5 := E1.cell v5; have z6 := E1.cell v6
      clear hRB hrd
      by_cases hk0 : sk = 0
      · subst hk0
        by_cases hz : lz = 0
        · subst hz
          cases r
          · have hBare : bareB (lastP P) = true := by rw [hBB]; rfl
            clear hBB
            as_aux_lemma =>
              clear CO0
              have Hc := hid (cmp_push0 (P := P) (d := (d1, d2, d3, ws, bs, du)) hd1 hd2)
              have Q1 := beq_f hd1
              have Q2 := beq_f hd2
              subst hW1
              go_wp2_with (first | ((with_reducible show wpList _ _ _ (Oper.mk _ (Op.indexAddr _ _ _) _ _ _ _ :: Oper.mk _ (Op.load _ _) _ _ _ _ :: _) _ _); refine wl_idxloadE (s := shLayer) (j := i) rfl rfl rfl rfl (fun _ => rfl) rfl rfl rfl hp l3 l5.out hlt hs1 hci ?_; simp only [ofCs, Sh.agg, if_true]) | ((with_reducible show wpList _ _ _ (Oper.mk _ (Op.indexAddr _ _ _) _ _ _ _ :: _) _ _); refine wl_idxEW (s := 7) (j := m - 1) rfl rfl rfl rfl (by omega) rfl (by omega) ?_; rw [adr_row, HLx.out]))
              refine push14 _ w1 wr _ (w.heap.size + 1 + 1) wr.heap.size m c8 (some ⟨g, 0, none⟩) P cs bss hc hm12 E1 d1 d2 d3 pw pb lw cw lb cb ws bs b5 C1 C2 Hlw Hlb _ _ _ _ _ _ _ _ _ _ _ _ _ _ _ _ _ _ _ _ _ _ _ _ _ _ _ _ _ _ _ _ _ _ _ _ _ _ _ _ _ _ _ _ _ _ _ _ _ _ _ _ _ _ _ _ _ _ _ _ _ _ _ _ _ _ _ _ _ _ _ _ _ _ _ _ _ _ _ _ _ _ _ _ _ _ _ _ _ _ _ _ _ _ _ _ _ _ _ _ _ _ _ _ _ _ _ _ _ _ _ _ _ _ _ _ _ _ _ _ _ _ _ _ _ _ _ _ _ _ _ _ _ _ _ _ _ _ _ _ _ _ _ _ _ _ _ _ _ _ _ _ _ _ _ ?_
              intro v137 v138 v139 v140 v141 v142 v143 v144 v145 v146 v147 v148 v149 v150 v151 v152 v153 v154 v155 w7 c6 g6 cs' bss' hc'
              go_wp2
              go_roundw
              case rel =>
                refine ⟨i + 1, m + 1, c6, some ⟨g6, 0, none⟩, cs', bss', by omega, by go_num, ?_⟩
                rw [Hsucc.out, Hc.out]
                exact hc'
              case measure => simp [intOf]; omega
          · have hBare : bareB (lastP P) = false := by rw [hBB]; rfl
            clear hBB
            as_aux_lemma =>
              clear CO0
              have Hc := hid (cmp_push0 (P := P) (d := (d1, d2, d3, ws, bs, du)) hd1 hd2)
              have Q1 := beq_f hd1
              have Q2 := beq_f hd2
              subst hW1
              go_wp2_with (first | ((with_reducible show wpList _ _ _ (Oper.mk _ (Op.indexAddr _ _ _) _ _ _ _ :: Oper.mk _ (Op.load _ _) _ _ _ _ :: _) _ _); refine wl_idxloadE (s := shLayer) (j := i) rfl rfl rfl rfl (fun _ => rfl) rfl rfl rfl hp l3 l5.out hlt hs1 hci ?_; simp only [ofCs, Sh.agg, if_true]) | ((with_reducible show wpList _ _ _ (Oper.mk _ (Op.indexAddr _ _ _) _ _ _ _ :: _) _ _); refine wl_idxEW (s := 7) (j := m - 1) rfl rfl rfl rfl (by omega) rfl (by omega) ?_; rw [adr_row, HLx.out]))
              refine push14 _ w1 wr _ (w.heap.size + 1 + 1) wr.heap.size m c8 (some ⟨g, 0, none⟩) P cs bss hc hm12 E1 d1 d2 d3 pw pb lw cw lb cb ws bs b5 C1 C2 Hlw Hlb _ _ _ _ _ _ _ _ _ _ _ _ _ _ _ _ _ _ _ _ _ _ _ _ _ _ _ _ _ _ _ _ _ _ _ _ _ _ _ _ _ _ _ _ _ _ _ _ _ _ _ _ _ _ _ _ _ _ _ _ _ _ _ _ _ _ _ _ _ _ _ _ _ _ _ _ _ _ _ _ _ _ _ _ _ _ _ _ _ _ _ _ _ _ _ _ _ _ _ _ _ _ _ _ _ _ _ _ _ _ _ _ _ _ _ _ _ _ _ _ _ _ _ _ _ _ _ _ _ _ _ _ _ _ _ _ _ _ _ _ _ _ _ _ _ _ _ _ _ _ _ _ _ _ _ ?_
              intro v137 v138 v139 v140 v141 v142 v143 v144 v145 v146 v147 v148 v149 v150 v151 v152 v153 v154 v155 w7 c6 g6 cs' bss' hc'
              go_wp2
              go_roundw
              case rel =>
                refine ⟨i + 1, m + 1, c6, some ⟨g6, 0, none⟩, cs', bss', by omega, by go_num, ?_⟩
                rw [Hsucc.out, Hc.out]
                exact hc'
              case measure => simp [intOf]; omega
        · have Qz := beq_f (show ¬ (lz : Int) = 0 by omega)
          have hBare : bareB (lastP P) = false := by rw [hBB, decide_eq_false hz]; rfl
          clear hBB
          as_aux_lemma =>
            clear CO0
            have Hc := hid (cmp_push0 (P := P) (d := (d1, d2, d3, ws, bs, du)) hd1 hd2)
            have Q1 := beq_f hd1
            have Q2 := beq_f hd2
            subst hW1
            go_wp2_with (first | ((with_reducible show wpList _ _ _ (Oper.mk _ (Op.indexAddr _ _ _) _ _ _ _ :: Oper.mk _ (Op.load _ _) _ _ _ _ :: _) _ _); refine wl_idxloadE (s := shLayer) (j := i) rfl rfl rfl rfl (fun _ => rfl) rfl rfl rfl hp l3 l5.out hlt hs1 hci ?_; simp only [ofCs, Sh.agg, if_true]) | ((with_reducible show wpList _ _ _ (Oper.mk _ (Op.indexAddr _ _ _) _ _ _ _ :: _) _ _); refine wl_idxEW (s := 7) (j := m - 1) rfl rfl rfl rfl (by omega) rfl (by omega) ?_; rw [adr_row, HLx.out]))
            refine push14 _ w1 wr _ (w.heap.size + 1 + 1) wr.heap.size m c8 (some ⟨g, 0, none⟩) P cs bss hc hm12 E1 d1 d2 d3 pw pb lw cw lb cb ws bs b5 C1 C2 Hlw Hlb _ _ _ _ _ _ _ _ _ _ _ _ _ _ _ _ _ _ _ _ _ _ _ _ _ _ _ _ _ _ _ _ _ _ _ _ _ _ _ _ _ _ _ _ _ _ _ _ _ _ _ _ _ _ _ _ _ _ _ _ _ _ _ _ _ _ _ _ _ _ _ _ _ _ _ _ _ _ _ _ _ _ _ _ _ _ _ _ _ _ _ _ _ _ _ _ _ _ _ _ _ _ _ _ _ _ _ _ _ _ _ _ _ _ _ _ _ _ _ _ _ _ _ _ _ _ _ _ _ _ _ _ _ _ _ _ _ _ _ _ _ _ _ _ _ _ _ _ _ _ _ _ _ _ _ ?_
            intro v137 v138 v139 v140 v141 v142 v143 v144 v145 v146 v147 v148 v149 v150 v151 v152 v153 v154 v155 w7 c6 g6 cs' bss' hc'
            go_wp2
            go_roundw
            case rel =>
              refine ⟨i + 1, m + 1, c6, some ⟨g6, 0, none⟩, cs', bss', by omega, by go_num, ?_⟩
              rw [Hsucc.out, Hc.out]
              exact hc'
            case measure => simp [intOf]; omega
      · have Q0 := beq_f hk0
        have hBare : bareB (lastP P) = false := by rw [hBB, decide_eq_false hk0]; rfl
        clear hBB
        as_aux_lemma =>
          clear CO0
          have Hc := hid (cmp_push0 (P := P) (d := (d1, d2, d3, ws, bs, du)) hd1 hd2)
          have Q1 := beq_f hd1
          have Q2 := beq_f hd2
          subst hW1
          go_wp2_with (first | ((with_reducible show wpList _ _ _ (Oper.mk _ (Op.indexAddr _ _ _) _ _ _ _ :: Oper.mk _ (Op.load _ _) _ _ _ _ :: _) _ _); refine wl_idxloadE (s := shLayer) (j := i) rfl rfl rfl rfl (fun _ => rfl) rfl rfl rfl hp l3 l5.out hlt hs1 hci ?_; simp only [ofCs, Sh.agg, if_true]) | ((with_reducible show wpList _ _ _ (Oper.mk _ (Op.indexAddr _ _ _) _ _ _ _ :: _) _ _); refine wl_idxEW (s := 7) (j := m - 1) rfl rfl rfl rfl (by omega) rfl (by omega) ?_; rw [adr_row, HLx.out]))
          refine push14 _ w1 wr _ (w.heap.size + 1 + 1) wr.heap.size m c8 (some ⟨g, 0, none⟩) P cs bss hc hm12 E1 d1 d2 d3 pw pb lw cw lb cb ws bs b5 C1 C2 Hlw Hlb _ _ _ _ _ _ _ _ _ _ _ _ _ _ _ _ _ _ _ _ _ _ _ _ _ _ _ _ _ _ _ _ _ _ _ _ _ _ _ _ _ _ _ _ _ _ _ _ _ _ _ _ _ _ _ _ _ _ _ _ _ _ _ _ _ _ _ _ _ _ _ _ _ _ _ _ _ _ _ _ _ _ _ _ _ _ _ _ _ _ _ _ _ _ _ _ _ _ _ _ _ _ _ _ _ _ _ _ _ _ _ _ _ _ _ _ _ _ _ _ _ _ _ _ _ _ _ _ _ _ _ _ _ _ _ _ _ _ _ _ _ _ _ _ _ _ _ _ _ _ _ _ _ _ _ ?_
          intro v137 v138 v139 v140 v141 v142 v143 v144 v145 v146 v147 v148 v149 v150 v151 v152 v153 v154 v155 w7 c6 g6 cs' bss' hc'
          go_wp2
          go_roundw
          case rel =>
            refine ⟨i + 1, m + 1, c6, some ⟨g6, 0, none⟩, cs', bss', by omega, by go_num, ?_⟩
            rw [Hsucc.out, Hc.out]
            exact hc'
          case measure => simp [intOf]; omega
    · obtain rfl : i = n := by omega
      have f0 := hc.out.cell 0 rfl
      have f1 := b1.ext hc.ext
      have n1 := f1.cell 0 rfl
      have m1 := f1.froz 0
      have O := hc.grow.own
      obtain ⟨bs, o1, o3⟩ := O
      have HPl := hid hc.len
      go_wp2
      refine bodyPost_ret (v := .agg #[.slice q m c8]) (by simp [results, Try.results69, go_sem, n1, m1]) rfl ?_
      have ch := chg_cell wr w.heap.size 0 (.slice q m c8)
      exact ⟨[.slice q m c8], bs, rfl, own_pla0 (o1.chg ch (fun b hb h => by have := o3 b hb; have h : b = _ := h; omega)), fun b hb => by have := o3 b hb; omega, he.chg ch (fun b hb => by omega)⟩
end Go.Proofs.Ytlimabbeaimdgaa
