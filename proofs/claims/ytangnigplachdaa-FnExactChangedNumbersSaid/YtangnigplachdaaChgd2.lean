/- Which numbers of two trainings differ: the program's part. -/
import Derived.Test.YtangnigplachdaaChgd
import Derived.Test.YtangnigplachdaaCpyM
import Derived.Test.YtangnigplachdaaConf2
namespace Go.Proofs.Ytangnigplachdaa
set_option linter.unusedSimpArgs false
set_option linter.unusedVariables false
open Go.RowKit

set_option maxRecDepth 100000 in
set_option maxHeartbeats 4000000 in
theorem fit_any (p0 p1 q0 q1 : Option Addr) (n0 c0 n1 c1 m0 d0 m1 d1 : Nat) (ub vb : Nat) (css csq : List (List Value)) (us vs : List Value) (A B : shTrainState.T) (w : World) (L1 : Lays w p0 n0 css A.1.1) (S1 : Slts w p1 n1 us A.2.1) (L2 : Lays w q0 m0 csq B.1.1) (S2 : Slts w q1 m1 vs B.2.1) :
    Calls Try.prog 136 #[.agg #[.slice p0 n0 c0, .slice p1 n1 c1, .int .i64 A.2.2.1, .int .i64 A.2.2.2.1, .float .f32 ub], .agg #[.slice q0 m0 d0, .slice q1 m1 d1, .int .i64 B.2.2.1, .int .i64 B.2.2.2.1, .float .f32 vb]] w (RetB w (fitB A B)) := by
  obtain ⟨W0, hW0⟩ : ∃ W0, W0 = (w.alloc (.cells #[.slice p0 n0 c0, .slice p1 n1 c1, .int .i64 A.2.2.1, .int .i64 A.2.2.2.1, .float .f32 ub] 113)).alloc (.cells #[.slice q0 m0 d0, .slice q1 m1 d1, .int .i64 B.2.2.1, .int .i64 B.2.2.2.1, .float .f32 vb] 113) := ⟨_, rfl⟩
  obtain ⟨E0, s0, b0, b1⟩ := box2 hW0
  have b0 : HB W0 w.heap.size #[.slice p0 n0 c0, .slice p1 n1 c1, .int .i64 A.2.2.1, .int .i64 A.2.2.2.1, .float .f32 ub] 113 := b0
  have b1 : HB W0 (w.heap.size + 1) #[.slice q0 m0 d0, .slice q1 m1 d1, .int .i64 B.2.2.1, .int .i64 B.2.2.2.1, .float .f32 vb] 113 := b1
  have K1 := hid (fun W (h : Ext W0 W) => IsStorable_any p0 p1 n0 c0 n1 c1 A.2.2.1 A.2.2.2.1 ub css us A.1.1 A.2.1 W (L1.ext (E0.trans h)) (S1.ext (E0.trans h)))
  have K2 := hid (fun W (h : Ext W0 W) => IsStorable_any q0 q1 m0 d0 m1 d1 B.2.2.1 B.2.2.2.1 vb csq vs B.1.1 B.2.1 W (L2.ext (E0.trans h)) (S2.ext (E0.trans h)))
  have l1 := L1.cs; have l2 := L1.all; have l3 := L1.size; have l5 := hid L1.cnt; have HL := hid L1.len
  have r1 := L2.cs; have r2 := L2.all; have r3 := L2.size; have r5 := hid L2.cnt; have HR := hid L2.len
  have hS1 := S1.len
  have hS2 := S2.len
  have hle := L1.le
  unfold maxLen at hle
  unfold fitB
  rw [HL.out, HR.out, hS1, hS2]
  clear L1 S1 L2 S2 hS1 hS2
  generalize A.1.1 = la at *
  generalize B.1.1 = lb at *
  generalize stoB la A.2.1 A.2.2.1 A.2.2.2.1 = bA at *
  generalize stoB lb B.2.1 B.2.2.1 B.2.2.2.1 = bB at *
  generalize A.2.2.1 = a3 at *
  generalize A.2.2.2.1 = a4 at *
  generalize B.2.2.1 = e3 at *
  generalize B.2.2.2.1 = e4 at *
  have x0 : W0.cell? ⟨w.heap.size, 0, none⟩ = some (.slice p0 n0 c0) := b0.cell 0 rfl
  have x1 : W0.cell? ⟨w.heap.size, 1, none⟩ = some (.slice p1 n1 c1) := b0.cell 1 rfl
  have y0 : W0.cell? ⟨w.heap.size + 1, 0, none⟩ = some (.slice q0 m0 d0) := b1.cell 0 rfl
  have y1 : W0.cell? ⟨w.heap.size + 1, 1, none⟩ = some (.slice q1 m1 d1) := b1.cell 1 rfl
  have y2 : W0.cell? ⟨w.heap.size + 1, 2, none⟩ = some (.int .i64 e3) := b1.cell 2 rfl
  have y3 : W0.cell? ⟨w.heap.size + 1, 3, none⟩ = some (.int .i64 e4) := b1.cell 3 rfl
  have y4 : W0.cell? ⟨w.heap.size + 1, 4, none⟩ = some (.float .f32 vb) := b1.cell 4 rfl
  cases bA
  · rw [Bool.false_and]
    go_enter Try.func136, Try.ntmps136
    go_wp2_with fail
    rw [← hW0]
    clear hW0
    refine (K1.out _ (Ext.refl _)).mono ?_
    rintro e w1 ⟨rfl, e1⟩
    go_wp2
    go_ret
    exact ⟨rfl, E0.trans e1⟩
  rw [Bool.true_and]
  cases bB
  · rw [Bool.false_and]
    go_enter Try.func136, Try.ntmps136
    go_wp2_with fail
    rw [← hW0]
    clear hW0
    refine (K1.out _ (Ext.refl _)).mono ?_
    rintro e w1 ⟨rfl, e1⟩
    have z0 := e1.cell y0; have z1 := e1.cell y1; have z2 := e1.cell y2; have z3 := e1.cell y3; have z4 := e1.cell y4
    go_wp2_with fail
    refine (K2.out _ e1).mono ?_
    rintro e w2 ⟨rfl, e2⟩
    go_wp2
    go_ret
    exact ⟨rfl, E0.trans (e1.trans e2)⟩
  rw [Bool.true_and]
  by_cases hn : n0 = m0
  case neg =>
    rw [decide_eq_false hn, Bool.false_and]
    have hT := bne_t (show ¬ (n0 : Int) = (m0 : Int) by omega)
    clear hn
    go_enter Try.func136, Try.ntmps136
    go_wp2_with fail
    rw [← hW0]
    clear hW0
    refine (K1.out _ (Ext.refl _)).mono ?_
    rintro e w1 ⟨rfl, e1⟩
    have z0 := e1.cell y0; have z1 := e1.cell y1; have z2 := e1.cell y2; have z3 := e1.cell y3; have z4 := e1.cell y4
    go_wp2_with fail
    refine (K2.out _ e1).mono ?_
    rintro e w2 ⟨rfl, e2⟩
    have E2 := e1.trans e2
    have t0 := E2.cell x0; have t1 := E2.cell x1; have t2 := E2.cell y0; have t3 := E2.cell y1
    go_wp2
    go_ret
    exact ⟨rfl, E0.trans E2⟩
  rw [decide_eq_true hn, Bool.true_and]
  have Hn := hid hn
  have hT := bne_f (show (n0 : Int) = (m0 : Int) by omega)
  clear hn
  by_cases hm : n1 = m1
  case neg =>
    rw [decide_eq_false hm, Bool.false_and]
    have hT2 := bne_t (show ¬ (n1 : Int) = (m1 : Int) by omega)
    clear hm
    go_enter Try.func136, Try.ntmps136
    go_wp2_with fail
    rw [← hW0]
    clear hW0
    refine (K1.out _ (Ext.refl _)).mono ?_
    rintro e w1 ⟨rfl, e1⟩
    have z0 := e1.cell y0; have z1 := e1.cell y1; have z2 := e1.cell y2; have z3 := e1.cell y3; have z4 := e1.cell y4
    go_wp2_with fail
    refine (K2.out _ e1).mono ?_
    rintro e w2 ⟨rfl, e2⟩
    have E2 := e1.trans e2
    have t0 := E2.cell x0; have t1 := E2.cell x1; have t2 := E2.cell y0; have t3 := E2.cell y1
    go_wp2
    go_ret
    exact ⟨rfl, E0.trans E2⟩
  rw [decide_eq_true hm, Bool.true_and]
  have hT2 := bne_f (show (n1 : Int) = (m1 : Int) by omega)
  clear hm
  generalize hG0 : kiB la lb 0 = G
  have HG := hid hG0
  clear hG0
  go_enter Try.func136, Try.ntmps136
  go_wp2_with fail
  rw [← hW0]
  clear hW0
  refine (K1.out _ (Ext.refl _)).mono ?_
  rintro e w1 ⟨rfl, e1⟩
  have z0 := e1.cell y0; have z1 := e1.cell y1; have z2 := e1.cell y2; have z3 := e1.cell y3; have z4 := e1.cell y4
  go_wp2_with fail
  refine (K2.out _ e1).mono ?_
  rintro e w2 ⟨rfl, e2⟩
  have E2 := e1.trans e2
  have t0 := E2.cell x0; have t1 := E2.cell x1; have t2 := E2.cell y0; have t3 := E2.cell y1
  clear K1 K2 z0 z1 z2 z3 z4
  go_wp2
  go_loopw [40] (fun iv wr => ∃ (i : Nat), i ≤ n0 ∧ iv = .int .i64 i ∧ Hid (kiB la lb i = G) ∧ Ext W0 wr) (fun iv _ => n0 - (intOf iv).toNat)
  case atStart => exact ⟨0, by omega, rfl, HG, E2⟩
  case round =>
    clear HG t0 t1 t2 t3 E2
    obtain ⟨i, hi, rfl, HI, he⟩ := hrel
    by_cases hlt : i < n0
    · have hil : i < la.length := by rw [HL.out]; exact hlt
      have hir : i < lb.length := by rw [HR.out, ← Hn.out]; exact hlt
      have hlt2 : i < m0 := by rw [← Hn.out]; exact hlt
      obtain ⟨ci, hci, ri⟩ := l2.get i la[i] (by simp)
      obtain ⟨ki, hki, si⟩ := r2.get i lb[i] (by simp)
      have hs1 : p0.isSome = true := l1.some_of l3 (by decide) (show 0 < css.length by rw [l5.out]; omega)
      have hs2 : q0.isSome = true := r1.some_of r3 (by decide) (show 0 < csq.length by rw [r5.out]; omega)
      have one := ri.one
      have two := si.one
      obtain ⟨pw, cw, pb, cb, rfl, _, _⟩ := lay_vals ri
      obtain ⟨qw, dw, qb, db, rfl, _, _⟩ := lay_vals si
      have hst := HI.out
      rw [kiB_at hil hir] at hst
      have hp := l1.ext (E0.trans he)
      have hq := r1.ext (E0.trans he)
      have u0 := he.cell y0
      unfold kio at hst
      generalize la[i] = x at *
      generalize lb[i] = y at *
      obtain ⟨k1, k2, k3, k4, k5, ku⟩ := x
      obtain ⟨j1, j2, j3, j4, j5, ju⟩ := y
      dsimp only at hst hci hki one two
      generalize List.length k4 = wl at *
      generalize List.length k5 = bl at *
      generalize List.length j4 = vl at *
      generalize List.length j5 = dl at *
      clear ri si
      by_cases g1 : (k1 : Int) = j1 <;> by_cases g2 : (k2 : Int) = j2 <;> by_cases g3 : (k3 : Int) = j3
      all_goals
        have G1 := hid hst
        first | have f1 := bne_f g1 | have f1 := bne_t g1
        first | have f2 := bne_f g2 | have f2 := bne_t g2
        first | have f3 := bne_f g3 | have f3 := bne_t g3
        have h1 := hid g1
        have h2 := hid g2
        have h3 := hid g3
        clear hst g1 g2 g3
        go_wp2_with (first | ((with_reducible show wpList _ _ _ (Oper.mk _ (Op.indexAddr _ _ _) _ _ _ _ :: Oper.mk _ (Op.load _ _) _ _ _ _ :: _) _ _); refine wl_idxloadE (s := shLayer) (j := i) (p := p0) rfl rfl rfl rfl (fun _ => rfl) rfl rfl rfl hp l3 l5.out hlt hs1 hci ?_; simp only [ofCs, Sh.agg, if_true]) | ((with_reducible show wpList _ _ _ (Oper.mk _ (Op.indexAddr _ _ _) _ _ _ _ :: Oper.mk _ (Op.load _ _) _ _ _ _ :: _) _ _); refine wl_idxloadE (s := shLayer) (j := i) (p := q0) rfl rfl rfl rfl (fun _ => rfl) rfl rfl rfl (hq.ext E5) r3 r5.out hlt2 hs2 hki ?_; simp only [ofCs, Sh.agg, if_true]) | ((with_reducible show wpList _ _ _ (Oper.mk _ (Op.store _ _ _) _ _ _ _ :: _) _ _); refine wl_stA (s := shLayer) (cs := [.int .i64 k1, .int .i64 k2, .int .i64 k3, .slice pw wl cw, .slice pb bl cb]) rfl rfl rfl rfl (heap_alloc_new _ _) rfl rfl one (by decide) ?_; intro w5 c5 ch5; have E5 := Ext.of_chg1 ch5; have v0 := E5.cell u0; clear ch5) | ((with_reducible show wpList _ _ _ (Oper.mk _ (Op.store _ _ _) _ _ _ _ :: _) _ _); refine wl_stA (s := shLayer) (cs := [.int .i64 j1, .int .i64 j2, .int .i64 j3, .slice qw vl dw, .slice qb dl db]) rfl rfl rfl rfl (heap_alloc_new _ _) rfl rfl two (by decide) ?_; intro w6 c6 ch6; have E6 := Ext.of_chg1 ch6; have o0 := lCountCorrect.cs_cell (c5.ext E6) 0 rfl; have o1 := lCountCorrect.cs_cell (c5.ext E6) 1 rfl; have o2 := lCountCorrect.cs_cell (c5.ext E6) 2 rfl; have a0 := lCountCorrect.cs_cell c6 0 rfl; have a1 := lCountCorrect.cs_cell c6 1 rfl; have a2 := lCountCorrect.cs_cell c6 2 rfl; have E7 := he.trans (E5.trans E6); clear ch6))
      · go_roundw
        case rel => exact ⟨i + 1, by omega, by go_num, by rw [← G1.out, decide_eq_true h1.out, decide_eq_true h2.out, decide_eq_true h3.out]; rfl, E7⟩
        case measure => simp [intOf]; omega
      all_goals
        go_ret
        refine ⟨?_, E0.trans E7⟩
        have hG := G1.out
        first
          | rw [decide_eq_false h1.out] at hG
          | rw [decide_eq_false h2.out] at hG
          | rw [decide_eq_false h3.out] at hG
        simp only [Bool.false_and, Bool.and_false] at hG
        rw [← hG]
        rfl
    · obtain rfl : i = n0 := by omega
      have hst := HI.out
      rw [kiB_end (by rw [HL.out]; exact Nat.le_refl _)] at hst
      subst hst
      go_wp2
      go_ret
      exact ⟨rfl, E0.trans he⟩
theorem own_chgN {S : Nat → Prop} {w w' : World} {B e s n : Nat} {v : Value} {vs : List Value} (h : w.ownsRow B e s v n vs) (k : Chg S w w') (hS : ∀ b, v.ownBlock = some b → ¬ S b) : w'.ownsRow B e s v n vs := by
  obtain ⟨h1, h2⟩ := h
  refine ⟨h1, ?_⟩
  rcases h2 with h2 | ⟨g, cap, cur, hv, hg, hh, r⟩
  · exact .inl h2
  · refine .inr ⟨g, cap, cur, hv, hg, ?_, r⟩
    rw [k.block g (heap_lt hh) (hS g (by rw [hv]; rfl))]; exact hh
/-- A row of another type, where a row grows. -/
theorem own_other {w w' : World} {B e s n B' e' s' n' : Nat} {v v' : Value} {vs vs' : List Value} (h : w.ownsRow B e s v n vs) (h' : w.ownsRow B' e' s' v' n' vs') (hne : e' ≠ e) (gr : w.grownBy w' v.ownBlock) : w'.ownsRow B' e' s' v' n' vs' := by
  refine own_chgN h' (.of_grown gr) fun b hb hs => ?_
  rcases h.2 with ⟨h1, _⟩ | ⟨g, cap, cur, hv, hg, hh, r⟩
  · rw [h1] at hs; simp [Value.ownBlock] at hs
  · rw [hv] at hs
    simp [Value.ownBlock] at hs
    subst hs
    rcases h'.2 with ⟨h2, _⟩ | ⟨g', cap', cur', hv', hg', hh', r'⟩
    · rw [h2] at hb; simp [Value.ownBlock] at hb
    · rw [hv'] at hb
      simp [Value.ownBlock] at hb
      subst hb
      rw [hh] at hh'
      injection hh' with hh'
      injection hh' with _ hh'
      exact hne hh'.symm
set_option maxRecDepth 100000 in
set_option maxHeartbeats 4000000 in
theorem changes_any (p0 p1 q0 q1 : Option Addr) (n0 c0 n1 c1 m0 d0 m1 d1 : Nat) (ub vb : Nat) (css csq : List (List Value)) (us vs : List Value) (A B : shTrainState.T) (w : World) (L1 : Lays w p0 n0 css A.1.1) (S1 : Slts w p1 n1 us A.2.1) (L2 : Lays w q0 m0 csq B.1.1) (S2 : Slts w q1 m1 vs B.2.1)
    (hfit : fitB A B = true) (fA : Fit shTrainState A) (fB : Fit shTrainState B) :
    Calls Try.prog 137 #[.agg #[.slice p0 n0 c0, .slice p1 n1 c1, .int .i64 A.2.2.1, .int .i64 A.2.2.2.1, .float .f32 ub], .agg #[.slice q0 m0 d0, .slice q1 m1 d1, .int .i64 B.2.2.1, .int .i64 B.2.2.2.1, .float .f32 vb]] w (RetI w (chgTo (lAllNumbers.numF A.1.1 A.2.1) (lAllNumbers.numF B.1.1 B.2.1) (lAllNumbers.numF A.1.1 A.2.1).length)) := by
  obtain ⟨hl1, hl2⟩ := num_lens hfit
  have hfit2 := hfit
  unfold fitB at hfit2
  simp only [Bool.and_eq_true] at hfit2
  obtain ⟨a1, a2, a3⟩ := lAllNumbers.sto_small hfit2.1
  obtain ⟨b1, b2, b3⟩ := lAllNumbers.sto_small hfit2.2.1
  have FA := hid (fun i => fit_nums fA i)
  have FB := hid (fun i => fit_nums fB i)
  obtain ⟨W0, hW0⟩ : ∃ W0, W0 = (w.alloc (.cells #[.slice p0 n0 c0, .slice p1 n1 c1, .int .i64 A.2.2.1, .int .i64 A.2.2.2.1, .float .f32 ub] 113)).alloc (.cells #[.slice q0 m0 d0, .slice q1 m1 d1, .int .i64 B.2.2.1, .int .i64 B.2.2.2.1, .float .f32 vb] 113) := ⟨_, rfl⟩
  obtain ⟨E0, s0, b0, bb⟩ := box2 hW0
  have b0 : HB W0 w.heap.size #[.slice p0 n0 c0, .slice p1 n1 c1, .int .i64 A.2.2.1, .int .i64 A.2.2.2.1, .float .f32 ub] 113 := b0
  have K1 := hid (fun W (h : Ext W0 W) => lAllNumbers.allNumbers_any p0 p1 n0 c0 n1 c1 A.2.2.1 A.2.2.2.1 ub css us A.1.1 A.2.1 W (L1.ext (E0.trans h)) (S1.ext (E0.trans h)) a1 a2 a3)
  have K2 := hid (fun W (h : Ext W0 W) => lAllNumbers.allNumbers_any q0 q1 m0 d0 m1 d1 B.2.2.1 B.2.2.2.1 vb csq vs B.1.1 B.2.1 W (L2.ext (E0.trans h)) (S2.ext (E0.trans h)) b1 b2 b3)
  clear L1 S1 L2 S2 hfit hfit2 fA fB a1 a2 a3 b1 b2 b3
  generalize lAllNumbers.numF A.1.1 A.2.1 = xs at *
  generalize lAllNumbers.numF B.1.1 B.2.1 = ys at *
  generalize hn : xs.length = n at *
  have HX := hid hn
  have HY := hid hl1.symm
  clear hn hl1
  generalize A.2.2.1 = a3 at *
  generalize A.2.2.2.1 = a4 at *
  generalize B.2.2.1 = e3 at *
  generalize B.2.2.2.1 = e4 at *
  have x0 : W0.cell? ⟨w.heap.size, 0, none⟩ = some (.slice p0 n0 c0) := b0.cell 0 rfl
  have x1 : W0.cell? ⟨w.heap.size, 1, none⟩ = some (.slice p1 n1 c1) := b0.cell 1 rfl
  have x2 : W0.cell? ⟨w.heap.size, 2, none⟩ = some (.int .i64 a3) := b0.cell 2 rfl
  have x3 : W0.cell? ⟨w.heap.size, 3, none⟩ = some (.int .i64 a4) := b0.cell 3 rfl
  have x4 : W0.cell? ⟨w.heap.size, 4, none⟩ = some (.float .f32 ub) := b0.cell 4 rfl
  go_enter Try.func137, Try.ntmps137
  go_wp2_with fail
  rw [← hW0]
  clear hW0
  refine (K2.out _ (Ext.refl _)).mono ?_
  intro e w1 h1
  obtain ⟨q2, k2, vs2, rfl, own2, hf2, e1⟩ := h1
  rw [HY.out] at own2 ⊢
  have y0 := e1.cell x0; have y1 := e1.cell x1; have y2 := e1.cell x2; have y3 := e1.cell x3; have y4 := e1.cell x4
  have hst : (w1.alloc (.cells #[] 2)).ownsRow w1.heap.size 2 1 (.slice (some ⟨w1.heap.size, 0, none⟩) 0 0) 0 [] := World.ownsRow_made w1 #[] 0 (Nat.le_refl _) (by decide) rfl
  have e2 := e1.trans (Ext.alloc w1 (.cells #[] 2))
  have g2 := own_ext own2 (Ext.alloc w1 (.cells #[] 2))
  have v0 := (Ext.alloc w1 (.cells #[] 2)).cell y0; have v1 := (Ext.alloc w1 (.cells #[] 2)).cell y1; have v2 := (Ext.alloc w1 (.cells #[] 2)).cell y2; have v3 := (Ext.alloc w1 (.cells #[] 2)).cell y3; have v4 := (Ext.alloc w1 (.cells #[] 2)).cell y4
  obtain ⟨W2, hW2⟩ : ∃ W2, W2 = w1.alloc (.cells #[] 2) := ⟨_, rfl⟩
  rw [← hW2] at hst e2 g2
  have hs2 : w1.heap.size ≤ W2.heap.size := by rw [hW2]; simp
  have hs1 := e1.size
  clear y0 y1 y2 y3 y4
  go_wp2_with fail
  rw [← hW2]
  clear hW2 v0 v1 v2 v3 v4
  refine (K1.out _ e2).mono ?_
  intro e w3 h3
  obtain ⟨q3, k3, vs3, rfl, own3, hf3, e3⟩ := h3
  rw [HX.out] at own3 ⊢
  have hst3 := own_ext hst e3
  have g3 := own_ext g2 e3
  have g4 := own3
  have E3 := e2.trans e3
  have hs3 := e3.size
  clear own3 hst g2 K1 K2 own2
  go_wp2
  go_loopw [6, 15] (fun ov iv wr => ∃ (i : Nat) (q6 : Option Addr) (c6 : Nat), i ≤ n ∧ iv = .int .i64 i ∧ ov = .slice q6 (chgTo xs ys i).length c6 ∧ wr.ownsRow w1.heap.size 2 1 (.slice q6 (chgTo xs ys i).length c6) (chgTo xs ys i).length ((chgTo xs ys i).map (.int .i64)) ∧ Hid (wr.ownsRow W0.heap.size 106 1 (.slice q2 n k2) n vs2 ∧ wr.ownsRow W2.heap.size 106 1 (.slice q3 n k3) n vs3) ∧ Ext W0 wr ∧ w1.heap.size ≤ wr.heap.size) (fun _ iv _ => n - (intOf iv).toNat)
  case atStart => exact ⟨0, _, _, by omega, rfl, rfl, hst3, ⟨g3, g4⟩, E3, by omega⟩
  case round =>
    clear hst3 g3 g4 E3 e3 e2
    obtain ⟨i, q6, c6, hi, rfl, rfl, own6, HG, he, hsz⟩ := hrel
    have g3 := own_Cs HG.out.1
    have g4 := own_Cs HG.out.2
    have hcl := chgTo_le xs ys i
    by_cases hlt : i < n
    · have ha := FA.out i
      have hb := FB.out i
      by_cases hq : xs.getD i 0 = ys.getD i 0
      · have HC := hid (chgTo_eq hq)
        have Hq := hid hq
        clear hq
        generalize hx : xs.getD i 0 = xv at *
        generalize hy : ys.getD i 0 = yv at *
        have Hx := hid hx
        have Hy := hid hy
        clear hx hy
        generalize chgTo xs ys i = L at *
        go_wp2_with (first | ((with_reducible show wpList _ _ _ (Oper.mk _ (Op.indexAddr _ _ _) _ _ _ _ :: Oper.mk _ (Op.load _ _) _ _ _ _ :: _) _ _); refine wl_ldF rfl rfl rfl rfl (fun _ => rfl) rfl rfl g4 hf3 HX.out (by omega) (by omega) ?_; intro r1 z1; rw [Int.toNat_natCast, Hx.out] at z1; have Z1 := hid z1; clear z1) | ((with_reducible show wpList _ _ _ (Oper.mk _ (Op.indexAddr _ _ _) _ _ _ _ :: Oper.mk _ (Op.load _ _) _ _ _ _ :: _) _ _); refine wl_ldF rfl rfl rfl rfl (fun _ => rfl) rfl rfl g3 hf2 HY.out (by omega) (by omega) ?_; intro r2 z2; rw [Int.toNat_natCast, Hy.out] at z2; have Z2 := hid z2; clear z2) | (go_at_call 169; refine (SameNumber_any r1 r2 _ (by rw [Z1.out]; exact ha) (by rw [Z2.out]; exact hb)).mono ?_; rw [Z1.out, Z2.out, decide_eq_true Hq.out]; rintro e w5 ⟨rfl, rfl⟩))
        go_roundw
        case rel => exact ⟨i + 1, q6, c6, by omega, by go_num, by rw [HC.out], by rw [HC.out]; exact own6, HG, he, hsz⟩
        case measure => simp [intOf]; omega
      · have HC := hid (chgTo_ne hq)
        have Hq := hid hq
        clear hq
        generalize hx : xs.getD i 0 = xv at *
        generalize hy : ys.getD i 0 = yv at *
        have Hx := hid hx
        have Hy := hid hy
        clear hx hy
        generalize chgTo xs ys i = L at *
        generalize hLn : L.length = ln at *
        have HLn := hid hLn
        clear hLn
        go_wp2_with (first | ((with_reducible show wpList _ _ _ (Oper.mk _ (Op.indexAddr _ _ _) _ _ _ _ :: Oper.mk _ (Op.load _ _) _ _ _ _ :: _) _ _); refine wl_ldF rfl rfl rfl rfl (fun _ => rfl) rfl rfl g4 hf3 HX.out (by omega) (by omega) ?_; intro r1 z1; rw [Int.toNat_natCast, Hx.out] at z1; have Z1 := hid z1; clear z1) | ((with_reducible show wpList _ _ _ (Oper.mk _ (Op.indexAddr _ _ _) _ _ _ _ :: Oper.mk _ (Op.load _ _) _ _ _ _ :: _) _ _); refine wl_ldF rfl rfl rfl rfl (fun _ => rfl) rfl rfl g3 hf2 HY.out (by omega) (by omega) ?_; intro r2 z2; rw [Int.toNat_natCast, Hy.out] at z2; have Z2 := hid z2; clear z2) | (go_at_call 169; refine (SameNumber_any r1 r2 _ (by rw [Z1.out]; exact ha) (by rw [Z2.out]; exact hb)).mono ?_; rw [Z1.out, Z2.out, decide_eq_false Hq.out]; rintro e w5 ⟨rfl, rfl⟩) | ((with_reducible show wpList _ _ _ (Oper.mk _ (Op.buildSlice _ _ _) _ _ _ _ :: Oper.mk _ (Op.call _) _ _ _ _ :: _) _ _); refine wl_app1b (u := .int .i64 i) rfl rfl rfl rfl rfl (by rfl) (by rfl) (fun _ => rfl) (fun _ => rfl) own6 (by unfold maxLen; omega) (by omega) (by omega) ?_; intro g9 c9 w9 own9 gr9 hw9))
        go_roundw
        case rel =>
          refine ⟨i + 1, some ⟨g9, 0, none⟩, c9, by omega, by go_num, ?_, ?_, ⟨own_other own6 HG.out.1 (by decide) gr9, own_other own6 HG.out.2 (by decide) gr9⟩, he.grown gr9 (fun kk hk => by have := own_le own6 kk hk; omega), by have := gr9.size; omega⟩
          · rw [HC.out, List.length_append, HLn.out]; rfl
          · rw [HC.out, List.length_append, HLn.out, List.map_append]; exact own9
        case measure => simp [intOf]; omega
    · obtain rfl : i = n := by omega
      go_wp2
      go_ret
      exact ⟨q6, c6, rfl, own_base own6 (by have := E0.size; omega), E0.trans he⟩
end Go.Proofs.Ytangnigplachdaa
