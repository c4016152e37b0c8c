/- Models and states that are the same: the program's functions. -/
import Derived.Test.YthphfmngofbabaaSameU
namespace Go.Proofs.Ythphfmngofbabaa
set_option linter.unusedSimpArgs false
set_option linter.unusedVariables false
open Go.RowKit

theorem flat1 {css : List (List Value)} (h : ∀ c ∈ css, c.length = 1) {i : Nat} {u : Value} (hu : css.flatten[i]? = some u) : css[i]? = some [u] := by
  have hl := flat_len' h
  have hi : i < css.length := by have := (List.getElem?_eq_some_iff.1 hu).1; omega
  have h2 := flat_get' (j := 0) h hi (by decide)
  rw [Nat.mul_one, Nat.add_zero, hu] at h2
  have h3 := h css[i] (by simp)
  obtain ⟨x, hx⟩ := List.length_eq_one_iff.1 h3
  rw [hx] at h2
  rw [List.getElem?_eq_getElem hi, hx]
  simpa using h2.symm
set_option maxRecDepth 100000 in
set_option maxHeartbeats 1000000 in
theorem equalSlots_any (v1 v2 : Value) (l l2 : (Sh.sl (.sl .flt)).T) (w : World) (r1 : Rep w (.sl (.sl .flt)) [v1] l) (r2 : Rep w (.sl (.sl .flt)) [v2] l2) (f1 : Fit (.sl (.sl .flt)) l) (f2 : Fit (.sl (.sl .flt)) l2) :
    Calls Try.prog 65 #[v1, v2, .func (.func 66) #[] #[]] w (RetB w (eqT (.sl (.sl .flt)) l l2)) := by
  obtain ⟨p, c, css, h1, a2, a3, a4, a5⟩ := r1
  obtain ⟨q, d, dss, h2, b2, b3, b4, b5⟩ := r2
  cases h1; cases h2
  have a6 : ∀ c ∈ css, c.length = 1 := fun c hc => by obtain ⟨i, hi, rfl⟩ := List.mem_iff_getElem.1 hc; obtain ⟨_, h⟩ := a5.get' i (by rw [← a5.length]; exact hi); exact h.size
  have b6 : ∀ c ∈ dss, c.length = 1 := fun c hc => by obtain ⟨i, hi, rfl⟩ := List.mem_iff_getElem.1 hc; obtain ⟨_, h⟩ := b5.get' i (by rw [← b5.length]; exact hi); exact h.size
  have hcall := equalL_any 66 (by intro args w; kernel_rfl) p q l.length l2.length c d css.flatten dss.flatten (atB (eqT (.sl .flt)) l l2) w (by rw [flat_len' a6, a5.length]; omega) (by rw [flat_len' b6, b5.length]; omega) (by omega) a2 b2 (by
    intro i u v W h1 h2 hW
    have e1 := flat1 a6 h1
    have e2 := flat1 b6 h2
    have i1 : i < l.length := by rw [← a5.length]; exact (List.getElem?_eq_some_iff.1 e1).1
    have i2 : i < l2.length := by rw [← b5.length]; exact (List.getElem?_eq_some_iff.1 e2).1
    have s1 := a5.toGet i _ l[i] e1 (by simp)
    have s2 := b5.toGet i _ l2[i] e2 (by simp)
    obtain ⟨p1, c1, g1, k1⟩ := fl3_of s1 (f1 _ (by simp))
    obtain ⟨p2, c2, g2, k2⟩ := fl3_of s2 (f2 _ (by simp))
    cases g1; cases g2
    rw [atB_in (x := l[i]) (y := l2[i]) (by simp) (by simp)]
    exact sameLists_fl3 (k1.ext hW) (k2.ext hW) rfl rfl)
  rw [eqT_list] at hcall
  exact hcall
set_option maxRecDepth 100000 in
set_option maxHeartbeats 1000000 in
theorem sameModel_any (v1 v2 : Value) (l l2 : (Sh.sl shLayer).T) (w : World) (r1 : Rep w (.sl shLayer) [v1] l) (r2 : Rep w (.sl shLayer) [v2] l2) (f1 : Fit (.sl shLayer) l) (f2 : Fit (.sl shLayer) l2) :
    Calls Try.prog 64 #[.agg #[v1], .agg #[v2]] w (RetB w (eqT (.sl shLayer) l l2)) := by
  obtain ⟨p, c, css, h1, a2, a3, a4, a5⟩ := r1
  obtain ⟨q, d, dss, h2, b2, b3, b4, b5⟩ := r2
  cases h1; cases h2
  have a6 : ∀ c ∈ css, c.length = shLayer.sz := fun c hc => by obtain ⟨i, hi, rfl⟩ := List.mem_iff_getElem.1 hc; obtain ⟨_, h⟩ := a5.get' i (by rw [← a5.length]; exact hi); exact h.size
  have b6 : ∀ c ∈ dss, c.length = shLayer.sz := fun c hc => by obtain ⟨i, hi, rfl⟩ := List.mem_iff_getElem.1 hc; obtain ⟨_, h⟩ := b5.get' i (by rw [← b5.length]; exact hi); exact h.size
  have ao : ∀ c ∈ css, ∀ u ∈ c, u.oneCell' = true := fun c hc => by obtain ⟨i, hi, rfl⟩ := List.mem_iff_getElem.1 hc; obtain ⟨_, h⟩ := a5.get' i (by rw [← a5.length]; exact hi); exact h.one
  have bo : ∀ c ∈ dss, ∀ u ∈ c, u.oneCell' = true := fun c hc => by obtain ⟨i, hi, rfl⟩ := List.mem_iff_getElem.1 hc; obtain ⟨_, h⟩ := b5.get' i (by rw [← b5.length]; exact hi); exact h.one
  have C := hid (fun w1 (hw : Ext w w1) => equalLay_any 119 (by intro args w; kernel_rfl) p q l.length l2.length c d css dss (atB (eqT shLayer) l l2) w1 (by omega) (a2.ext hw) ao a6 a5.length (b2.ext hw) bo b6 b5.length (by
    intro i ci di W e1 e2 hW
    have i1 : i < l.length := by rw [← a5.length]; exact (List.getElem?_eq_some_iff.1 e1).1
    have i2 : i < l2.length := by rw [← b5.length]; exact (List.getElem?_eq_some_iff.1 e2).1
    have s1 := a5.toGet i _ l[i] e1 (by simp)
    have s2 := b5.toGet i _ l2[i] e2 (by simp)
    rw [atB_in (x := l[i]) (y := l2[i]) (by simp) (by simp)]
    exact sameLayer_any _ _ _ _ W ((s1.ext hw).ext hW) ((s2.ext hw).ext hW) (f1 _ (by simp)) (f2 _ (by simp))))
  rw [eqT_list] at C
  generalize eqT (.sl shLayer) l l2 = b at *
  generalize l.length = n at *
  generalize l2.length = m at *
  clear a2 a5 a6 ao b2 b5 b6 bo f1 f2
  go_enter Try.func64, Try.ntmps64
  go_wp2_with fail
  refine (C.out _ ((Ext.alloc _ _).trans (Ext.alloc _ _))).mono ?_
  rintro e w1 ⟨rfl, e1⟩
  go_wp2
  go_ret
  exact ⟨rfl, ((Ext.alloc _ _).trans (Ext.alloc _ _)).trans e1⟩
theorem tra_cells {w : World} {cs : List Value} {d : shTrainState.T} (h : Rep w shTrainState cs d) (hf : Fit shTrainState d) : ∃ v1 v2 b, cs = [v1, v2, .int .i64 d.2.2.1, .int .i64 d.2.2.2.1, .float .f32 b] ∧ Rep w (.sl shLayer) [v1] d.1.1 ∧ Rep w (.sl (.sl .flt)) [v2] d.2.1 ∧ Fit (.sl shLayer) d.1.1 ∧ Fit (.sl (.sl .flt)) d.2.1 ∧ cn .f32 b = d.2.2.2.2.1 ∧ d.2.2.2.2.1 < 4294967296 := by
  obtain ⟨⟨a1, au⟩, a2, a3, a4, a5, bu⟩ := d
  obtain ⟨_, _, rfl, ⟨_, _, rfl, h1, rfl⟩, _, _, rfl, h2, _, _, rfl, rfl, _, _, rfl, rfl, _, _, rfl, ⟨b, rfl, hb⟩, rfl⟩ := h
  obtain ⟨⟨f1, _⟩, f2, _, _, f5, _⟩ := hf
  obtain ⟨v1, hv1⟩ := List.length_eq_one_iff.1 h1.size
  obtain ⟨v2, hv2⟩ := List.length_eq_one_iff.1 h2.size
  subst hv1; subst hv2
  exact ⟨v1, v2, b, rfl, h1, h2, f1, f2, hb, f5⟩
set_option maxRecDepth 100000 in
set_option maxHeartbeats 1000000 in
theorem SameTraining_any (d e : shTrainState.T) (ci di : List Value) (w : World) (r1 : Rep w shTrainState ci d) (r2 : Rep w shTrainState di e) (f1 : Fit shTrainState d) (f2 : Fit shTrainState e) :
    Calls Try.prog 16 #[ofCs shTrainState ci, ofCs shTrainState di] w (RetB w (eqT shTrainState d e)) := by
  obtain ⟨u1, u2, ub, rfl, p1, p2, p3, p4, p5, p6⟩ := tra_cells r1 f1
  obtain ⟨v1, v2, vb, rfl, q1, q2, q3, q4, q5, q6⟩ := tra_cells r2 f2
  obtain ⟨⟨x1, xv⟩, x2, x3, x4, x5, xu⟩ := d
  obtain ⟨⟨y1, yv⟩, y2, y3, y4, y5, yu⟩ := e
  clear r1 r2 f1 f2
  dsimp only at *
  have hres : eqT shTrainState ((x1, xv), x2, x3, x4, x5, xu) ((y1, yv), y2, y3, y4, y5, yu) = ((eqT (.sl shLayer) x1 y1 && true) && (eqT (.sl (.sl .flt)) x2 y2 && (decide ((x3 : Int) = y3) && (decide ((x4 : Int) = y4) && (decide ((x5 : Nat) = y5) && true))))) := rfl
  rw [hres, ofCs_agg rfl, ofCs_agg rfl, Bool.and_true, Bool.and_true]
  clear hres
  have C1 := hid (fun W (h : Ext w W) => sameModel_any u1 v1 x1 y1 W (p1.ext h) (q1.ext h) p3 q3)
  have C2 := hid (fun W (h : Ext w W) => equalSlots_any u2 v2 x2 y2 W (p2.ext h) (q2.ext h) p4 q4)
  have C5 := hid (fun W => SameNumber_any ub vb W (by rw [p5]; exact p6) (by rw [q5]; exact q6))
  rw [p5, q5] at C5
  generalize eqT (.sl shLayer) x1 y1 = e1 at *
  generalize eqT (.sl (.sl .flt)) x2 y2 = e2 at *
  generalize decide ((x5 : Nat) = y5) = e5 at *
  have n1 := p2.size
  clear p1 p2 p3 p4 p5 p6 q1 q2 q3 q4 q5 q6 n1
  cases e1 with
  | false =>
    simp only [Bool.false_and, Bool.true_and]
    go_enter Try.func16, Try.ntmps16
    go_wp2_with fail
    refine (C1.out _ ((Ext.alloc _ _).trans (Ext.alloc _ _))).mono ?_
    rintro e w1 ⟨rfl, e1⟩
    have c1_1_0 := e1.cell (p := ⟨w.heap.size, 1, none⟩) (v := u2) (by simp)
    have c1_1_1 := e1.cell (p := ⟨w.heap.size + 1, 1, none⟩) (v := v2) (by simp)
    have c1_2_0 := e1.cell (p := ⟨w.heap.size, 2, none⟩) (v := .int .i64 x3) (by simp)
    have c1_2_1 := e1.cell (p := ⟨w.heap.size + 1, 2, none⟩) (v := .int .i64 y3) (by simp)
    have c1_3_0 := e1.cell (p := ⟨w.heap.size, 3, none⟩) (v := .int .i64 x4) (by simp)
    have c1_3_1 := e1.cell (p := ⟨w.heap.size + 1, 3, none⟩) (v := .int .i64 y4) (by simp)
    have c1_4_0 := e1.cell (p := ⟨w.heap.size, 4, none⟩) (v := .float .f32 ub) (by simp)
    have c1_4_1 := e1.cell (p := ⟨w.heap.size + 1, 4, none⟩) (v := .float .f32 vb) (by simp)
    go_wp2
    go_ret
    exact ⟨rfl, (((Ext.alloc _ _).trans (Ext.alloc _ _)).trans e1)⟩
  | true =>
    cases e2 with
    | false =>
      simp only [Bool.false_and, Bool.true_and]
      go_enter Try.func16, Try.ntmps16
      go_wp2_with fail
      refine (C1.out _ ((Ext.alloc _ _).trans (Ext.alloc _ _))).mono ?_
      rintro e w1 ⟨rfl, e1⟩
      have c1_1_0 := e1.cell (p := ⟨w.heap.size, 1, none⟩) (v := u2) (by simp)
      have c1_1_1 := e1.cell (p := ⟨w.heap.size + 1, 1, none⟩) (v := v2) (by simp)
      have c1_2_0 := e1.cell (p := ⟨w.heap.size, 2, none⟩) (v := .int .i64 x3) (by simp)
      have c1_2_1 := e1.cell (p := ⟨w.heap.size + 1, 2, none⟩) (v := .int .i64 y3) (by simp)
      have c1_3_0 := e1.cell (p := ⟨w.heap.size, 3, none⟩) (v := .int .i64 x4) (by simp)
      have c1_3_1 := e1.cell (p := ⟨w.heap.size + 1, 3, none⟩) (v := .int .i64 y4) (by simp)
      have c1_4_0 := e1.cell (p := ⟨w.heap.size, 4, none⟩) (v := .float .f32 ub) (by simp)
      have c1_4_1 := e1.cell (p := ⟨w.heap.size + 1, 4, none⟩) (v := .float .f32 vb) (by simp)
      go_wp2_with fail
      refine (C2.out _ (((Ext.alloc _ _).trans (Ext.alloc _ _)).trans e1)).mono ?_
      rintro e w2 ⟨rfl, e2⟩
      have c2_2_0 := e2.cell (p := ⟨w.heap.size, 2, none⟩) (v := .int .i64 x3) c1_2_0
      have c2_2_1 := e2.cell (p := ⟨w.heap.size + 1, 2, none⟩) (v := .int .i64 y3) c1_2_1
      have c2_3_0 := e2.cell (p := ⟨w.heap.size, 3, none⟩) (v := .int .i64 x4) c1_3_0
      have c2_3_1 := e2.cell (p := ⟨w.heap.size + 1, 3, none⟩) (v := .int .i64 y4) c1_3_1
      have c2_4_0 := e2.cell (p := ⟨w.heap.size, 4, none⟩) (v := .float .f32 ub) c1_4_0
      have c2_4_1 := e2.cell (p := ⟨w.heap.size + 1, 4, none⟩) (v := .float .f32 vb) c1_4_1
      clear c1_1_0 c1_1_1 c1_2_0 c1_2_1 c1_3_0 c1_3_1 c1_4_0 c1_4_1
      go_wp2
      go_ret
      exact ⟨rfl, ((((Ext.alloc _ _).trans (Ext.alloc _ _)).trans e1).trans e2)⟩
    | true =>
      by_cases g3 : (x3 : Int) = y3
      · rw [decide_eq_true g3]
        have Q3 := beq_t g3
        clear g3
        by_cases g4 : (x4 : Int) = y4
        · rw [decide_eq_true g4]
          have Q4 := beq_t g4
          clear g4
          simp only [Bool.true_and]
          go_enter Try.func16, Try.ntmps16
          go_wp2_with fail
          refine (C1.out _ ((Ext.alloc _ _).trans (Ext.alloc _ _))).mono ?_
          rintro e w1 ⟨rfl, e1⟩
          have c1_1_0 := e1.cell (p := ⟨w.heap.size, 1, none⟩) (v := u2) (by simp)
          have c1_1_1 := e1.cell (p := ⟨w.heap.size + 1, 1, none⟩) (v := v2) (by simp)
          have c1_2_0 := e1.cell (p := ⟨w.heap.size, 2, none⟩) (v := .int .i64 x3) (by simp)
          have c1_2_1 := e1.cell (p := ⟨w.heap.size + 1, 2, none⟩) (v := .int .i64 y3) (by simp)
          have c1_3_0 := e1.cell (p := ⟨w.heap.size, 3, none⟩) (v := .int .i64 x4) (by simp)
          have c1_3_1 := e1.cell (p := ⟨w.heap.size + 1, 3, none⟩) (v := .int .i64 y4) (by simp)
          have c1_4_0 := e1.cell (p := ⟨w.heap.size, 4, none⟩) (v := .float .f32 ub) (by simp)
          have c1_4_1 := e1.cell (p := ⟨w.heap.size + 1, 4, none⟩) (v := .float .f32 vb) (by simp)
          go_wp2_with fail
          refine (C2.out _ (((Ext.alloc _ _).trans (Ext.alloc _ _)).trans e1)).mono ?_
          rintro e w2 ⟨rfl, e2⟩
          have c2_2_0 := e2.cell (p := ⟨w.heap.size, 2, none⟩) (v := .int .i64 x3) c1_2_0
          have c2_2_1 := e2.cell (p := ⟨w.heap.size + 1, 2, none⟩) (v := .int .i64 y3) c1_2_1
          have c2_3_0 := e2.cell (p := ⟨w.heap.size, 3, none⟩) (v := .int .i64 x4) c1_3_0
          have c2_3_1 := e2.cell (p := ⟨w.heap.size + 1, 3, none⟩) (v := .int .i64 y4) c1_3_1
          have c2_4_0 := e2.cell (p := ⟨w.heap.size, 4, none⟩) (v := .float .f32 ub) c1_4_0
          have c2_4_1 := e2.cell (p := ⟨w.heap.size + 1, 4, none⟩) (v := .float .f32 vb) c1_4_1
          clear c1_1_0 c1_1_1 c1_2_0 c1_2_1 c1_3_0 c1_3_1 c1_4_0 c1_4_1
          go_wp2_with fail
          refine (C5.out _).mono ?_
          rintro e w5 ⟨rfl, rfl⟩
          go_wp2
          go_ret
          exact ⟨rfl, ((((Ext.alloc _ _).trans (Ext.alloc _ _)).trans e1).trans e2)⟩
        · rw [decide_eq_false g4]
          have Q4 := beq_f g4
          clear g4
          simp only [Bool.false_and, Bool.true_and]
          go_enter Try.func16, Try.ntmps16
          go_wp2_with fail
          refine (C1.out _ ((Ext.alloc _ _).trans (Ext.alloc _ _))).mono ?_
          rintro e w1 ⟨rfl, e1⟩
          have c1_1_0 := e1.cell (p := ⟨w.heap.size, 1, none⟩) (v := u2) (by simp)
          have c1_1_1 := e1.cell (p := ⟨w.heap.size + 1, 1, none⟩) (v := v2) (by simp)
          have c1_2_0 := e1.cell (p := ⟨w.heap.size, 2, none⟩) (v := .int .i64 x3) (by simp)
          have c1_2_1 := e1.cell (p := ⟨w.heap.size + 1, 2, none⟩) (v := .int .i64 y3) (by simp)
          have c1_3_0 := e1.cell (p := ⟨w.heap.size, 3, none⟩) (v := .int .i64 x4) (by simp)
          have c1_3_1 := e1.cell (p := ⟨w.heap.size + 1, 3, none⟩) (v := .int .i64 y4) (by simp)
          have c1_4_0 := e1.cell (p := ⟨w.heap.size, 4, none⟩) (v := .float .f32 ub) (by simp)
          have c1_4_1 := e1.cell (p := ⟨w.heap.size + 1, 4, none⟩) (v := .float .f32 vb) (by simp)
          go_wp2_with fail
          refine (C2.out _ (((Ext.alloc _ _).trans (Ext.alloc _ _)).trans e1)).mono ?_
          rintro e w2 ⟨rfl, e2⟩
          have c2_2_0 := e2.cell (p := ⟨w.heap.size, 2, none⟩) (v := .int .i64 x3) c1_2_0
          have c2_2_1 := e2.cell (p := ⟨w.heap.size + 1, 2, none⟩) (v := .int .i64 y3) c1_2_1
          have c2_3_0 := e2.cell (p := ⟨w.heap.size, 3, none⟩) (v := .int .i64 x4) c1_3_0
          have c2_3_1 := e2.cell (p := ⟨w.heap.size + 1, 3, none⟩) (v := .int .i64 y4) c1_3_1
          have c2_4_0 := e2.cell (p := ⟨w.heap.size, 4, none⟩) (v := .float .f32 ub) c1_4_0
          have c2_4_1 := e2.cell (p := ⟨w.heap.size + 1, 4, none⟩) (v := .float .f32 vb) c1_4_1
          clear c1_1_0 c1_1_1 c1_2_0 c1_2_1 c1_3_0 c1_3_1 c1_4_0 c1_4_1
          go_wp2
          go_ret
          exact ⟨rfl, ((((Ext.alloc _ _).trans (Ext.alloc _ _)).trans e1).trans e2)⟩
      · rw [decide_eq_false g3]
        have Q3 := beq_f g3
        clear g3
        simp only [Bool.false_and, Bool.true_and]
        go_enter Try.func16, Try.ntmps16
        go_wp2_with fail
        refine (C1.out _ ((Ext.alloc _ _).trans (Ext.alloc _ _))).mono ?_
        rintro e w1 ⟨rfl, e1⟩
        have c1_1_0 := e1.cell (p := ⟨w.heap.size, 1, none⟩) (v := u2) (by simp)
        have c1_1_1 := e1.cell (p := ⟨w.heap.size + 1, 1, none⟩) (v := v2) (by simp)
        have c1_2_0 := e1.cell (p := ⟨w.heap.size, 2, none⟩) (v := .int .i64 x3) (by simp)
        have c1_2_1 := e1.cell (p := ⟨w.heap.size + 1, 2, none⟩) (v := .int .i64 y3) (by simp)
        have c1_3_0 := e1.cell (p := ⟨w.heap.size, 3, none⟩) (v := .int .i64 x4) (by simp)
        have c1_3_1 := e1.cell (p := ⟨w.heap.size + 1, 3, none⟩) (v := .int .i64 y4) (by simp)
        have c1_4_0 := e1.cell (p := ⟨w.heap.size, 4, none⟩) (v := .float .f32 ub) (by simp)
        have c1_4_1 := e1.cell (p := ⟨w.heap.size + 1, 4, none⟩) (v := .float .f32 vb) (by simp)
        go_wp2_with fail
        refine (C2.out _ (((Ext.alloc _ _).trans (Ext.alloc _ _)).trans e1)).mono ?_
        rintro e w2 ⟨rfl, e2⟩
        have c2_2_0 := e2.cell (p := ⟨w.heap.size, 2, none⟩) (v := .int .i64 x3) c1_2_0
        have c2_2_1 := e2.cell (p := ⟨w.heap.size + 1, 2, none⟩) (v := .int .i64 y3) c1_2_1
        have c2_3_0 := e2.cell (p := ⟨w.heap.size, 3, none⟩) (v := .int .i64 x4) c1_3_0
        have c2_3_1 := e2.cell (p := ⟨w.heap.size + 1, 3, none⟩) (v := .int .i64 y4) c1_3_1
        have c2_4_0 := e2.cell (p := ⟨w.heap.size, 4, none⟩) (v := .float .f32 ub) c1_4_0
        have c2_4_1 := e2.cell (p := ⟨w.heap.size + 1, 4, none⟩) (v := .float .f32 vb) c1_4_1
        clear c1_1_0 c1_1_1 c1_2_0 c1_2_1 c1_3_0 c1_3_1 c1_4_0 c1_4_1
        go_wp2
        go_ret
        exact ⟨rfl, ((((Ext.alloc _ _).trans (Ext.alloc _ _)).trans e1).trans e2)⟩
end Go.Proofs.Ythphfmngofbabaa
