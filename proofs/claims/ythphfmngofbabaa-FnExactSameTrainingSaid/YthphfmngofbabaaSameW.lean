/- States that are the same: the reference's functions. -/
import Derived.Test.YthphfmngofbabaaSameV
namespace Go.Proofs.Ythphfmngofbabaa
set_option linter.unusedSimpArgs false
set_option linter.unusedVariables false
open Go.RowKit

theorem l01SameAll_fl3 {p q : Option Addr} {n m c d : Nat} {xs ys : List Nat} {w : World} (h1 : Fl3 w p xs) (h2 : Fl3 w q ys) (hn : xs.length = n) (hm : ys.length = m) :
    Calls Try.prog 116 #[.slice p n c, .slice q m d] w (RetB w (eqT (.sl .flt) xs ys)) := by
  obtain ⟨us, a1, a2, a3, a4⟩ := h1
  obtain ⟨vs, b1, b2, b3, b4⟩ := h2
  rw [eqT_flts]
  exact l01SameAll_any p q n m c d us vs xs ys w hn hm (by omega) a1 b1 a2 b2 a4 b4
/-- Two lists of layers behind slices, two lists of slots. -/
structure Lays (w : World) (p : Option Addr) (n : Nat) (css : List (List Value)) (l : List shLayer.T) : Prop where
  cs : Cs w p css.flatten
  all : All2 (Rep w shLayer) css l
  size : ∀ c ∈ css, c.length = shLayer.sz
  one : ∀ c ∈ css, ∀ u ∈ c, u.oneCell' = true
  len : l.length = n
  cnt : css.length = n
  fit : ∀ x ∈ l, Fit shLayer x
  le : n ≤ maxLen
theorem Lays.ext {w w' : World} {p : Option Addr} {n : Nat} {css : List (List Value)} {l : List shLayer.T} (h : Lays w p n css l) (e : Ext w w') : Lays w' p n css l :=
  ⟨h.cs.ext e, h.all.imp fun _ _ => Rep.ext e, h.size, h.one, h.len, h.cnt, h.fit, h.le⟩
theorem lays_of {w : World} {v : Value} {l : List shLayer.T} (h : Rep w (.sl shLayer) [v] l) (hf : Fit (.sl shLayer) l) : ∃ p c css, v = .slice p l.length c ∧ Lays w p l.length css l := by
  obtain ⟨p, c, css, h1, a2, a3, a4, a5⟩ := h
  cases h1
  refine ⟨p, c, css, rfl, a2, a5, fun c hc => ?_, fun c hc => ?_, rfl, a5.length, hf, Nat.le_trans a3 a4⟩
  · obtain ⟨i, hi, rfl⟩ := List.mem_iff_getElem.1 hc; obtain ⟨_, h⟩ := a5.get' i (by rw [← a5.length]; exact hi); exact h.size
  · obtain ⟨i, hi, rfl⟩ := List.mem_iff_getElem.1 hc; obtain ⟨_, h⟩ := a5.get' i (by rw [← a5.length]; exact hi); exact h.one
structure Slts (w : World) (p : Option Addr) (n : Nat) (us : List Value) (l : List (List Nat)) : Prop where
  cs : Cs w p us
  at' : ∀ i, i < n → ∃ q c, us[i]? = some (.slice q (l.getD i []).length c) ∧ Fl3 w q (l.getD i [])
  len : l.length = n
  cnt : us.length = n
  le : n ≤ maxLen
theorem Slts.ext {w w' : World} {p : Option Addr} {n : Nat} {us : List Value} {l : List (List Nat)} (h : Slts w p n us l) (e : Ext w w') : Slts w' p n us l :=
  ⟨h.cs.ext e, fun i hi => by obtain ⟨q, c, h1, h2⟩ := h.at' i hi; exact ⟨q, c, h1, h2.ext e⟩, h.len, h.cnt, h.le⟩
theorem slts_of {w : World} {v : Value} {l : List (List Nat)} (h : Rep w (.sl (.sl .flt)) [v] l) (hf : Fit (.sl (.sl .flt)) l) : ∃ p c us, v = .slice p l.length c ∧ Slts w p l.length us l := by
  obtain ⟨p, c, css, h1, a2, a3, a4, a5⟩ := h
  cases h1
  have a6 : ∀ c ∈ css, c.length = 1 := fun c hc => by obtain ⟨i, hi, rfl⟩ := List.mem_iff_getElem.1 hc; obtain ⟨_, h⟩ := a5.get' i (by rw [← a5.length]; exact hi); exact h.size
  refine ⟨p, c, css.flatten, rfl, a2, fun i hi => ?_, rfl, by rw [flat_len' a6, a5.length, Nat.mul_one], Nat.le_trans a3 a4⟩
  obtain ⟨h1, h2⟩ := a5.get' i hi
  obtain ⟨p1, c1, g1, k1⟩ := fl3_of h2 (hf _ (by simp))
  have hd : l.getD i [] = l[i] := by simp [show i < l.length from hi]
  rw [hd]
  refine ⟨p1, c1, ?_, k1⟩
  have := flat_get' (j := 0) a6 h1 (by decide)
  rw [Nat.mul_one, Nat.add_zero, g1] at this
  simpa using this
theorem cellJ {w : World} {g j : Nat} {cs : List Value} {v : Value} (h : Cs w (some ⟨g, 0, none⟩) cs) (hj : cs[j]? = some v) : w.cell? ⟨g, j, none⟩ = some v := by
  have := h.1 j v hj; rwa [adr_row] at this

/-- What l07Same says. -/
def sameR (d e : shTrainState.T) : Bool :=
  decide ((d.2.2.1 : Int) = e.2.2.1) && (decide ((d.2.2.2.1 : Int) = e.2.2.2.1) && (decide ((d.2.2.2.2.1 : Nat) = e.2.2.2.2.1) && (decide ((d.2.1 : List (List Nat)).length = (e.2.1 : List (List Nat)).length) && (decide ((d.1.1 : List shLayer.T).length = (e.1.1 : List shLayer.T).length) &&
    (!anyTo (fun i => !atB (eqT (.sl .flt)) (d.2.1 : List (List Nat)) e.2.1 i) (d.2.1 : List (List Nat)).length && !anyTo (fun i => !atB (eqT shLayer) (d.1.1 : List shLayer.T) e.1.1 i) (d.1.1 : List shLayer.T).length)))))
theorem sameR_eq (d e : shTrainState.T) : sameR d e = eqT shTrainState d e := by
  obtain ⟨⟨x1, xv⟩, x2, x3, x4, x5, xu⟩ := d
  obtain ⟨⟨y1, yv⟩, y2, y3, y4, y5, yu⟩ := e
  have hres : eqT shTrainState ((x1, xv), x2, x3, x4, x5, xu) ((y1, yv), y2, y3, y4, y5, yu) = ((eqT (.sl shLayer) x1 y1 && true) && (eqT (.sl (.sl .flt)) x2 y2 && (decide ((x3 : Int) = y3) && (decide ((x4 : Int) = y4) && (decide ((x5 : Nat) = y5) && true))))) := rfl
  rw [hres, ← eqT_list, ← eqT_list]
  unfold sameR
  dsimp only
  have key : ∀ a b c q k s l : Bool, (a && (b && (c && (q && (k && (!s && !l)))))) = (((k && !l) && true) && ((q && !s) && (a && (b && (c && true))))) := by decide
  exact key _ _ _ _ _ _ _

set_option maxRecDepth 100000 in
set_option maxHeartbeats 4000000 in
theorem l07Same_any (b1 b2 : Nat) (p0 q0 p1 q1 : Option Addr) (n0 c0 m0 d0 n1 c1 m1 d1 : Nat) (x3 x4 y3 y4 : Int) (ub vb : Nat) (css dss : List (List Value)) (us vs : List Value) (l l2 : List shLayer.T) (s s2 : List (List Nat)) (w : World)
    (g0 : w.cell? ⟨b1, 0, none⟩ = some (.slice p0 n0 c0)) (g1 : w.cell? ⟨b1, 1, none⟩ = some (.slice p1 n1 c1)) (g2 : w.cell? ⟨b1, 2, none⟩ = some (.int .i64 x3)) (g3 : w.cell? ⟨b1, 3, none⟩ = some (.int .i64 x4)) (g4 : w.cell? ⟨b1, 4, none⟩ = some (.float .f32 ub))
    (h0 : w.cell? ⟨b2, 0, none⟩ = some (.slice q0 m0 d0)) (h1 : w.cell? ⟨b2, 1, none⟩ = some (.slice q1 m1 d1)) (h2 : w.cell? ⟨b2, 2, none⟩ = some (.int .i64 y3)) (h3 : w.cell? ⟨b2, 3, none⟩ = some (.int .i64 y4)) (h4 : w.cell? ⟨b2, 4, none⟩ = some (.float .f32 vb))
    (k1 : cn .f32 ub < 4294967296) (k2 : cn .f32 vb < 4294967296) (L1 : Lays w p0 n0 css l) (L2 : Lays w q0 m0 dss l2) (S1 : Slts w p1 n1 us s) (S2 : Slts w q1 m1 vs s2) :
    Calls Try.prog 62 #[.pointer (some ⟨b1, 0, none⟩), .pointer (some ⟨b2, 0, none⟩)] w (RetB w (decide (x3 = y3) && (decide (x4 = y4) && (decide (cn .f32 ub = cn .f32 vb) && (decide (n1 = m1) && (decide (n0 = m0) && (!anyTo (fun i => !atB (eqT (.sl .flt)) s s2 i) n1 && !anyTo (fun i => !atB (eqT shLayer) l l2 i) n0))))))) := by
  have C5 := hid (fun W => calls_retB ((l01Same_any ub vb W k1 k2).mono (fun e w3 h => (⟨h.1, h.2 ▸ Ext.refl _⟩ : RetB W _ e w3))))
  generalize decide (cn .f32 ub = cn .f32 vb) = b5 at *
  have gd0 := (Ext.drew w).cell g0
  have gd1 := (Ext.drew w).cell g1
  have gd2 := (Ext.drew w).cell g2
  have gd3 := (Ext.drew w).cell g3
  have gd4 := (Ext.drew w).cell g4
  have hd0 := (Ext.drew w).cell h0
  have hd1 := (Ext.drew w).cell h1
  have hd2 := (Ext.drew w).cell h2
  have hd3 := (Ext.drew w).cell h3
  have hd4 := (Ext.drew w).cell h4
  clear k1 k2
  by_cases e3 : x3 = y3
  rotate_left 1
  · rw [decide_eq_false e3, Bool.false_and]
    have Q3 := bne_t e3
    clear e3
    go_enter Try.func62, Try.ntmps62
    go_wp2
    refine wp_region_xall (F := fun _ _ u => u = .bool b5) (by kernel_rfl) (by kernel_rfl) (by kernel_rfl) ?_
    intro wf hwf
    repeat (first
      | (refine x_skip rfl ?_; simp only [Act.put, ev_tmp, List.setIfInBounds_toArray, List.set_cons_succ, List.set_cons_zero, List.getD_cons_succ, List.getD_cons_zero])
      | (refine x_mv rfl rfl rfl ?_; simp only [Act.put, ev_tmp, List.setIfInBounds_toArray, List.set_cons_succ, List.set_cons_zero, List.getD_cons_succ, List.getD_cons_zero])
      | (refine x_as rfl rfl rfl ?_; simp only [Act.put, ev_tmp, List.setIfInBounds_toArray, List.set_cons_succ, List.set_cons_zero, List.getD_cons_succ, List.getD_cons_zero])
      | (refine x_callf (f := 115) (args := #[.float .f32 ub, .float .f32 vb]) rfl rfl Try.func115 rfl (by kernel_rfl) ?_ ?_ ?_; (focus (simp [Act.eval]; done)); (focus (intro w1 hw1; exact (C5.out w1))); rintro u w3 e3 e4 rfl; simp only [Act.put, ev_tmp, List.setIfInBounds_toArray, List.set_cons_succ, List.set_cons_zero, List.getD_cons_succ, List.getD_cons_zero])
      | (refine x_run rfl fun K hK w1 hw1 => ?_; have k0 := hw1.cell (gd0); have k1 := hw1.cell (gd1); have k2 := hw1.cell (gd2); have k3 := hw1.cell (gd3); have k4 := hw1.cell (gd4); have k5 := hw1.cell (hd0); have k6 := hw1.cell (hd1); have k7 := hw1.cell (hd2); have k8 := hw1.cell (hd3); have k9 := hw1.cell (hd4); go_simp; refine hK _ ?_; clear hK K k0 k1 k2 k3 k4 k5 k6 k7 k8 k9 hw1 w1))
    refine x_nil ?_
    go_wp2
    go_ret
    exact ⟨rfl, (Ext.drew _).trans hwf⟩
  rw [decide_eq_true e3, Bool.true_and]
  have Q3 := bne_f e3
  clear e3
  by_cases e4 : x4 = y4
  rotate_left 1
  · rw [decide_eq_false e4, Bool.false_and]
    have Q4 := bne_t e4
    clear e4
    go_enter Try.func62, Try.ntmps62
    go_wp2
    refine wp_region_xall (F := fun _ _ u => u = .bool b5) (by kernel_rfl) (by kernel_rfl) (by kernel_rfl) ?_
    intro wf hwf
    repeat (first
      | (refine x_skip rfl ?_; simp only [Act.put, ev_tmp, List.setIfInBounds_toArray, List.set_cons_succ, List.set_cons_zero, List.getD_cons_succ, List.getD_cons_zero])
      | (refine x_mv rfl rfl rfl ?_; simp only [Act.put, ev_tmp, List.setIfInBounds_toArray, List.set_cons_succ, List.set_cons_zero, List.getD_cons_succ, List.getD_cons_zero])
      | (refine x_as rfl rfl rfl ?_; simp only [Act.put, ev_tmp, List.setIfInBounds_toArray, List.set_cons_succ, List.set_cons_zero, List.getD_cons_succ, List.getD_cons_zero])
      | (refine x_callf (f := 115) (args := #[.float .f32 ub, .float .f32 vb]) rfl rfl Try.func115 rfl (by kernel_rfl) ?_ ?_ ?_; (focus (simp [Act.eval]; done)); (focus (intro w1 hw1; exact (C5.out w1))); rintro u w3 e3 e4 rfl; simp only [Act.put, ev_tmp, List.setIfInBounds_toArray, List.set_cons_succ, List.set_cons_zero, List.getD_cons_succ, List.getD_cons_zero])
      | (refine x_run rfl fun K hK w1 hw1 => ?_; have k0 := hw1.cell (gd0); have k1 := hw1.cell (gd1); have k2 := hw1.cell (gd2); have k3 := hw1.cell (gd3); have k4 := hw1.cell (gd4); have k5 := hw1.cell (hd0); have k6 := hw1.cell (hd1); have k7 := hw1.cell (hd2); have k8 := hw1.cell (hd3); have k9 := hw1.cell (hd4); go_simp; refine hK _ ?_; clear hK K k0 k1 k2 k3 k4 k5 k6 k7 k8 k9 hw1 w1))
    refine x_nil ?_
    go_wp2
    go_ret
    exact ⟨rfl, (Ext.drew _).trans hwf⟩
  rw [decide_eq_true e4, Bool.true_and]
  have Q4 := bne_f e4
  clear e4
  cases b5
  · rw [Bool.false_and]
    go_enter Try.func62, Try.ntmps62
    go_wp2
    refine wp_region_xall (F := fun _ _ u => u = .bool false) (by kernel_rfl) (by kernel_rfl) (by kernel_rfl) ?_
    intro wf hwf
    repeat (first
      | (refine x_skip rfl ?_; simp only [Act.put, ev_tmp, List.setIfInBounds_toArray, List.set_cons_succ, List.set_cons_zero, List.getD_cons_succ, List.getD_cons_zero])
      | (refine x_mv rfl rfl rfl ?_; simp only [Act.put, ev_tmp, List.setIfInBounds_toArray, List.set_cons_succ, List.set_cons_zero, List.getD_cons_succ, List.getD_cons_zero])
      | (refine x_as rfl rfl rfl ?_; simp only [Act.put, ev_tmp, List.setIfInBounds_toArray, List.set_cons_succ, List.set_cons_zero, List.getD_cons_succ, List.getD_cons_zero])
      | (refine x_callf (f := 115) (args := #[.float .f32 ub, .float .f32 vb]) rfl rfl Try.func115 rfl (by kernel_rfl) ?_ ?_ ?_; (focus (simp [Act.eval]; done)); (focus (intro w1 hw1; exact (C5.out w1))); rintro u w3 e3 e4 rfl; simp only [Act.put, ev_tmp, List.setIfInBounds_toArray, List.set_cons_succ, List.set_cons_zero, List.getD_cons_succ, List.getD_cons_zero])
      | (refine x_run rfl fun K hK w1 hw1 => ?_; have k0 := hw1.cell (gd0); have k1 := hw1.cell (gd1); have k2 := hw1.cell (gd2); have k3 := hw1.cell (gd3); have k4 := hw1.cell (gd4); have k5 := hw1.cell (hd0); have k6 := hw1.cell (hd1); have k7 := hw1.cell (hd2); have k8 := hw1.cell (hd3); have k9 := hw1.cell (hd4); go_simp; refine hK _ ?_; clear hK K k0 k1 k2 k3 k4 k5 k6 k7 k8 k9 hw1 w1))
    refine x_nil ?_
    go_wp2
    go_ret
    exact ⟨rfl, (Ext.drew _).trans hwf⟩
  rw [Bool.true_and]
  by_cases e1 : n1 = m1
  rotate_left 1
  · rw [decide_eq_false e1, Bool.false_and]
    have e1' : ¬ (n1 : Int) = m1 := by omega
    have Q1 := bne_t e1'
    clear e1 e1'
    go_enter Try.func62, Try.ntmps62
    go_wp2
    refine wp_region_xall (F := fun _ _ u => u = .bool true) (by kernel_rfl) (by kernel_rfl) (by kernel_rfl) ?_
    intro wf hwf
    repeat (first
      | (refine x_skip rfl ?_; simp only [Act.put, ev_tmp, List.setIfInBounds_toArray, List.set_cons_succ, List.set_cons_zero, List.getD_cons_succ, List.getD_cons_zero])
      | (refine x_mv rfl rfl rfl ?_; simp only [Act.put, ev_tmp, List.setIfInBounds_toArray, List.set_cons_succ, List.set_cons_zero, List.getD_cons_succ, List.getD_cons_zero])
      | (refine x_as rfl rfl rfl ?_; simp only [Act.put, ev_tmp, List.setIfInBounds_toArray, List.set_cons_succ, List.set_cons_zero, List.getD_cons_succ, List.getD_cons_zero])
      | (refine x_callf (f := 115) (args := #[.float .f32 ub, .float .f32 vb]) rfl rfl Try.func115 rfl (by kernel_rfl) ?_ ?_ ?_; (focus (simp [Act.eval]; done)); (focus (intro w1 hw1; exact (C5.out w1))); rintro u w3 e3 e4 rfl; simp only [Act.put, ev_tmp, List.setIfInBounds_toArray, List.set_cons_succ, List.set_cons_zero, List.getD_cons_succ, List.getD_cons_zero])
      | (refine x_run rfl fun K hK w1 hw1 => ?_; have k0 := hw1.cell (gd0); have k1 := hw1.cell (gd1); have k2 := hw1.cell (gd2); have k3 := hw1.cell (gd3); have k4 := hw1.cell (gd4); have k5 := hw1.cell (hd0); have k6 := hw1.cell (hd1); have k7 := hw1.cell (hd2); have k8 := hw1.cell (hd3); have k9 := hw1.cell (hd4); go_simp; refine hK _ ?_; clear hK K k0 k1 k2 k3 k4 k5 k6 k7 k8 k9 hw1 w1))
    refine x_nil ?_
    go_wp2
    go_ret
    exact ⟨rfl, (Ext.drew _).trans hwf⟩
  rw [decide_eq_true e1, Bool.true_and]
  subst e1
  have Q1 := bne_f (Eq.refl (n1 : Int))
  by_cases e0 : n0 = m0
  rotate_left 1
  · rw [decide_eq_false e0, Bool.false_and]
    have e0' : ¬ (n0 : Int) = m0 := by omega
    have Q0 := bne_t e0'
    clear e0 e0'
    go_enter Try.func62, Try.ntmps62
    go_wp2
    refine wp_region_xall (F := fun _ _ u => u = .bool true) (by kernel_rfl) (by kernel_rfl) (by kernel_rfl) ?_
    intro wf hwf
    repeat (first
      | (refine x_skip rfl ?_; simp only [Act.put, ev_tmp, List.setIfInBounds_toArray, List.set_cons_succ, List.set_cons_zero, List.getD_cons_succ, List.getD_cons_zero])
      | (refine x_mv rfl rfl rfl ?_; simp only [Act.put, ev_tmp, List.setIfInBounds_toArray, List.set_cons_succ, List.set_cons_zero, List.getD_cons_succ, List.getD_cons_zero])
      | (refine x_as rfl rfl rfl ?_; simp only [Act.put, ev_tmp, List.setIfInBounds_toArray, List.set_cons_succ, List.set_cons_zero, List.getD_cons_succ, List.getD_cons_zero])
      | (refine x_callf (f := 115) (args := #[.float .f32 ub, .float .f32 vb]) rfl rfl Try.func115 rfl (by kernel_rfl) ?_ ?_ ?_; (focus (simp [Act.eval]; done)); (focus (intro w1 hw1; exact (C5.out w1))); rintro u w3 e3 e4 rfl; simp only [Act.put, ev_tmp, List.setIfInBounds_toArray, List.set_cons_succ, List.set_cons_zero, List.getD_cons_succ, List.getD_cons_zero])
      | (refine x_run rfl fun K hK w1 hw1 => ?_; have k0 := hw1.cell (gd0); have k1 := hw1.cell (gd1); have k2 := hw1.cell (gd2); have k3 := hw1.cell (gd3); have k4 := hw1.cell (gd4); have k5 := hw1.cell (hd0); have k6 := hw1.cell (hd1); have k7 := hw1.cell (hd2); have k8 := hw1.cell (hd3); have k9 := hw1.cell (hd4); go_simp; refine hK _ ?_; clear hK K k0 k1 k2 k3 k4 k5 k6 k7 k8 k9 hw1 w1))
    refine x_nil ?_
    go_wp2
    go_ret
    exact ⟨rfl, (Ext.drew _).trans hwf⟩
  rw [decide_eq_true e0, Bool.true_and]
  subst e0
  have Q0 := bne_f (Eq.refl (n0 : Int))
  go_enter Try.func62, Try.ntmps62
  go_wp2
  refine wp_region_xall (F := fun _ _ u => u = .bool true) (by kernel_rfl) (by kernel_rfl) (by kernel_rfl) ?_
  intro wf hwf
  repeat (first
    | (refine x_skip rfl ?_; simp only [Act.put, ev_tmp, List.setIfInBounds_toArray, List.set_cons_succ, List.set_cons_zero, List.getD_cons_succ, List.getD_cons_zero])
    | (refine x_mv rfl rfl rfl ?_; simp only [Act.put, ev_tmp, List.setIfInBounds_toArray, List.set_cons_succ, List.set_cons_zero, List.getD_cons_succ, List.getD_cons_zero])
    | (refine x_as rfl rfl rfl ?_; simp only [Act.put, ev_tmp, List.setIfInBounds_toArray, List.set_cons_succ, List.set_cons_zero, List.getD_cons_succ, List.getD_cons_zero])
    | (refine x_callf (f := 115) (args := #[.float .f32 ub, .float .f32 vb]) rfl rfl Try.func115 rfl (by kernel_rfl) ?_ ?_ ?_; (focus (simp [Act.eval]; done)); (focus (intro w1 hw1; exact (C5.out w1))); rintro u w3 e3 e4 rfl; simp only [Act.put, ev_tmp, List.setIfInBounds_toArray, List.set_cons_succ, List.set_cons_zero, List.getD_cons_succ, List.getD_cons_zero])
    | (refine x_run rfl fun K hK w1 hw1 => ?_; have k0 := hw1.cell (gd0); have k1 := hw1.cell (gd1); have k2 := hw1.cell (gd2); have k3 := hw1.cell (gd3); have k4 := hw1.cell (gd4); have k5 := hw1.cell (hd0); have k6 := hw1.cell (hd1); have k7 := hw1.cell (hd2); have k8 := hw1.cell (hd3); have k9 := hw1.cell (hd4); go_simp; refine hK _ ?_; clear hK K k0 k1 k2 k3 k4 k5 k6 k7 k8 k9 hw1 w1))
  refine x_nil ?_
  have he0 := (Ext.drew w).trans hwf
  clear hwf gd0 gd1 gd2 gd3 gd4 hd0 hd1 hd2 hd3 hd4 Q0 Q1 Q3 Q4 C5
  have Le0 := L1.le
  have Le1 := S1.le
  unfold maxLen at Le0 Le1
  go_wp2
  go_loopw [5] (fun iv wr => ∃ i : Nat, i ≤ n1 ∧ iv = .int .i64 i ∧ Hid (∀ j, j < i → atB (eqT (.sl .flt)) s s2 j = true) ∧ Ext w wr) (fun iv _ => n1 - (intOf iv).toNat)
  case atStart => exact ⟨0, by omega, rfl, hid (fun j hj => absurd hj (Nat.not_lt_zero j)), he0⟩
  case round =>
    obtain ⟨i, hi, rfl, Hall, he⟩ := hrel
    have a0 := he.cell g0
    have a1 := he.cell g1
    have a2 := he.cell h0
    have a3 := he.cell h1
    by_cases hlt : i < n1
    · obtain ⟨pu, cu, eu, fu⟩ := S1.at' i hlt
      obtain ⟨pv, cv, ev, fv⟩ := S2.at' i hlt
      have hs1 : p1.isSome = true := S1.cs.2 (fun h => by rw [h] at eu; simp at eu)
      have hs2 : q1.isSome = true := S2.cs.2 (fun h => by rw [h] at ev; simp at ev)
      have ku := (S1.cs.ext (he.trans (Ext.drew wr))).1 i _ eu
      have kv := (S2.cs.ext (he.trans (Ext.drew wr))).1 i _ ev
      have ka1 := (Ext.drew wr).cell a1
      have ka3 := (Ext.drew wr).cell a3
      have C := hid (fun W (h : Ext w W) => calls_retB (l01SameAll_fl3 (n := (s.getD i []).length) (m := (s2.getD i []).length) (c := cu) (d := cv) (fu.ext h) (fv.ext h) rfl rfl))
      have hat : atB (eqT (.sl .flt)) s s2 i = eqT (.sl .flt) (s.getD i []) (s2.getD i []) := atB_in (by have := S1.len; simp [show i < s.length by omega]) (by have := S2.len; simp [show i < s2.length by omega])
      rw [← hat] at C
      obtain ⟨b, hb⟩ : ∃ b, atB (eqT (.sl .flt)) s s2 i = b := ⟨_, rfl⟩
      rw [hb] at C
      have Hb := hid hb
      clear hb hat fu fv
      generalize (s.getD i []).length = lu at *
      generalize (s2.getD i []).length = lv at *
      go_wp2
      refine wp_region_xall (F := fun _ _ u => u = .bool b) (by kernel_rfl) (by kernel_rfl) (by kernel_rfl) ?_
      intro wf hwf
      repeat (first
        | (refine x_skip rfl ?_; simp only [Act.put, ev_tmp, List.setIfInBounds_toArray, List.set_cons_succ, List.set_cons_zero, List.getD_cons_succ, List.getD_cons_zero])
        | (refine x_mv rfl rfl rfl ?_; simp only [Act.put, ev_tmp, List.setIfInBounds_toArray, List.set_cons_succ, List.set_cons_zero, List.getD_cons_succ, List.getD_cons_zero])
        | (refine x_as rfl rfl rfl ?_; simp only [Act.put, ev_tmp, List.setIfInBounds_toArray, List.set_cons_succ, List.set_cons_zero, List.getD_cons_succ, List.getD_cons_zero])
        | (refine x_idx (t := 25) (s := 1) (i := (i : Int)) (p := p1) rfl rfl rfl rfl hs1 (by omega) (by omega) ?_; rw [Int.toNat_natCast, Nat.mul_one]; simp only [Act.put, ev_tmp, List.setIfInBounds_toArray, List.set_cons_succ, List.set_cons_zero, List.getD_cons_succ, List.getD_cons_zero])
        | (refine x_idx (t := 25) (s := 1) (i := (i : Int)) (p := q1) rfl rfl rfl rfl hs2 (by omega) (by omega) ?_; rw [Int.toNat_natCast, Nat.mul_one]; simp only [Act.put, ev_tmp, List.setIfInBounds_toArray, List.set_cons_succ, List.set_cons_zero, List.getD_cons_succ, List.getD_cons_zero])
        | (refine x_callf (f := 116) (args := #[.slice pu lu cu, .slice pv lv cv]) rfl rfl Try.func116 rfl (by kernel_rfl) ?_ ?_ ?_; (focus (simp [Act.eval]; done)); (focus (intro w1 hw1; exact (C.out w1 ((he.trans (Ext.drew _)).trans hw1)))); rintro u w3 e3 e4 rfl; simp only [Act.put, ev_tmp, List.setIfInBounds_toArray, List.set_cons_succ, List.set_cons_zero, List.getD_cons_succ, List.getD_cons_zero])
        | (refine x_run rfl fun K hK w1 hw1 => ?_; have k0 := hw1.cell (ka1); have k1 := hw1.cell (ka3); have k2 := hw1.cell (ku); have k3 := hw1.cell (kv); go_simp; refine hK _ ?_; clear hK K k0 k1 k2 k3 hw1 w1))
      refine x_nil ?_
      have he' := (he.trans (Ext.drew wr)).trans hwf
      clear hwf ku kv ka1 ka3 a0 a1 a2 a3 C
      cases b with
      | true =>
        go_wp2
        go_roundw
        case rel => exact ⟨i + 1, by omega, by go_num, hid fun j hj => (if hji : j = i then hji ▸ Hb.out else Hall.out j (by omega)), he'⟩
        case measure => simp [intOf]; omega
      | false =>
        go_wp2
        go_ret
        refine ⟨?_, he'⟩
        have ha : anyTo (fun i => !atB (eqT (.sl .flt)) s s2 i) n1 = true := anyTo_true.2 ⟨i, hlt, by rw [Hb.out]; rfl⟩
        rw [ha]; rfl
    · obtain rfl : i = n1 := by omega
      have HS := hid (show anyTo (fun i => !atB (eqT (.sl .flt)) s s2 i) i = false from anyTo_false fun j hj => by rw [Hall.out j hj]; rfl)
      go_wp2
      clear a0 a1 a2 a3 hlt
      have he1 := he
      clear he
      go_loopw [6] (fun iv wr => ∃ i : Nat, i ≤ n0 ∧ iv = .int .i64 i ∧ Hid (∀ j, j < i → atB (eqT shLayer) l l2 j = true) ∧ Ext w wr) (fun iv _ => n0 - (intOf iv).toNat)
      case atStart => exact ⟨0, by omega, rfl, hid (fun j hj => absurd hj (Nat.not_lt_zero j)), he1⟩
      case round =>
        rename_i n1' _ _
        obtain ⟨i, hi, rfl, HallL, he⟩ := hrel
        have a0 := he.cell g0
        have a1 := he.cell h0
        by_cases hlt : i < n0
        · have hp' := L1.cs.ext he
          have hq' := L2.cs.ext he
          obtain ⟨ci, e1, r1⟩ := L1.all.get i (l[i]'(by rw [L1.len]; exact hlt)) (by simp)
          obtain ⟨di, e2, r2⟩ := L2.all.get i (l2[i]'(by rw [L2.len]; exact hlt)) (by simp)
          have hb := atB_in (f := eqT shLayer) (l := l) (m := l2) (i := i) (x := l[i]'(by rw [L1.len]; exact hlt)) (y := l2[i]'(by rw [L2.len]; exact hlt)) (by simp) (by simp)
          have f1 := L1.fit (l[i]'(by rw [L1.len]; exact hlt)) (by simp)
          have f2 := L2.fit (l2[i]'(by rw [L2.len]; exact hlt)) (by simp)
          generalize l[i]'(by rw [L1.len]; exact hlt) = d at *
          generalize l2[i]'(by rw [L2.len]; exact hlt) = e at *
          have Z1 := hid r1.size
          have Z2 := hid r2.size
          have O1 := hid r1.one
          have O2 := hid r2.one
          obtain ⟨pw, cw, pb, cb, rfl, j1, j2⟩ := lay_cells r1 f1
          obtain ⟨qw, dw, qb, db, rfl, j3, j4⟩ := lay_cells r2 f2
          obtain ⟨x1, x2, x3, x4, x5, xu⟩ := d
          obtain ⟨y1, y2, y3, y4, y5, yu⟩ := e
          dsimp only at *
          have hres : eqT shLayer (x1, x2, x3, x4, x5, xu) (y1, y2, y3, y4, y5, yu) = (decide ((x1 : Int) = y1) && (decide ((x2 : Int) = y2) && (decide ((x3 : Int) = y3) && (eqT (.sl .flt) x4 y4 && (eqT (.sl .flt) x5 y5 && true))))) := rfl
          rw [hres] at hb
          clear hres r1 r2 f1 f2
          have hs1 := L1.cs.some_of L1.size (by decide) (show 0 < css.length by rw [L1.cnt]; omega)
          have hs2 := L2.cs.some_of L2.size (by decide) (show 0 < dss.length by rw [L2.cnt]; omega)
          have C4 := hid (fun W (h : Ext w W) => l01SameAll_fl3 (n := x4.length) (m := y4.length) (c := cw) (d := dw) (j1.ext h) (j3.ext h) rfl rfl)
          have C5 := hid (fun W (h : Ext w W) => l01SameAll_fl3 (n := x5.length) (m := y5.length) (c := cb) (d := db) (j2.ext h) (j4.ext h) rfl rfl)
          generalize eqT (.sl .flt) x4 y4 = e4 at *
          generalize eqT (.sl .flt) x5 y5 = e5 at *
          have Hb := hid hb
          have E1 := hid e1
          have E2 := hid e2
          clear hb e1 e2 j1 j2 j3 j4
          unfold Hid at Hb
          by_cases g1' : (x1 : Int) = y1
          · rw [decide_eq_true g1', Bool.true_and] at Hb
            have Q1 := bne_f g1'
            clear g1'
            by_cases g2' : (x2 : Int) = y2
            · rw [decide_eq_true g2', Bool.true_and] at Hb
              have Q2 := bne_f g2'
              clear g2'
              by_cases g3' : (x3 : Int) = y3
              · rw [decide_eq_true g3', Bool.true_and] at Hb
                have Q3 := bne_f g3'
                clear g3'
                cases e4 with
                | false =>
                  rw [Bool.false_and] at Hb
                  go_wp2_with (first | ((with_reducible show wpList _ _ _ (Oper.mk _ (Op.indexAddr _ _ _) _ _ _ _ :: Oper.mk _ (Op.load _ _) _ _ _ _ :: _) _ _); refine wl_idxloadE (s := shLayer) (j := i) rfl rfl rfl rfl (fun _ => rfl) rfl rfl rfl hp' L1.size L1.cnt hlt hs1 E1.out ?_) | ((with_reducible show wpList _ _ _ (Oper.mk _ (Op.store _ _ _) _ _ _ _ :: _) _ _); refine wl_stA (s := shLayer) (cs := [.int .i64 x1, .int .i64 x2, .int .i64 x3, .slice pw x4.length cw, .slice pb x5.length cb]) rfl rfl rfl rfl (heap_alloc_new _ _) rfl Z1.out O1.out (by decide) ?_; intro w5 c5 ch5; have E5 : Ext wr w5 := (Ext.alloc _ _).chg ch5 (fun b hb => by subst hb; exact Nat.le_refl _); clear ch5; have r0 := E5.cell a0; have r1 := E5.cell a1) | ((with_reducible show wpList _ _ _ (Oper.mk _ (Op.indexAddr _ _ _) _ _ _ _ :: Oper.mk _ (Op.load _ _) _ _ _ _ :: _) _ _); refine wl_idxloadE (s := shLayer) (j := i) rfl rfl rfl rfl (fun _ => rfl) rfl rfl rfl (hq'.ext E5) L2.size L2.cnt hlt hs2 E2.out ?_) | ((with_reducible show wpList _ _ _ (Oper.mk _ (Op.store _ _ _) _ _ _ _ :: _) _ _); refine wl_stA (s := shLayer) (cs := [.int .i64 y1, .int .i64 y2, .int .i64 y3, .slice qw y4.length dw, .slice qb y5.length db]) rfl rfl rfl rfl (heap_alloc_new _ _) rfl Z2.out O2.out (by decide) ?_; intro w6 c6 ch6; have E6 : Ext w5 w6 := (Ext.alloc _ _).chg ch6 (fun b hb => by subst hb; exact Nat.le_refl _); clear ch6; have t0 := cellJ (j := 0) (c5.ext E6) rfl; have v0 := cellJ (j := 0) c6 rfl; have t1 := cellJ (j := 1) (c5.ext E6) rfl; have v1 := cellJ (j := 1) c6 rfl; have t2 := cellJ (j := 2) (c5.ext E6) rfl; have v2 := cellJ (j := 2) c6 rfl; have t3 := cellJ (j := 3) (c5.ext E6) rfl; have v3 := cellJ (j := 3) c6 rfl; have t4 := cellJ (j := 4) (c5.ext E6) rfl; have v4 := cellJ (j := 4) c6 rfl))
                  refine (C4.out _ (he.trans (E5.trans E6))).mono ?_
                  rintro e w7 ⟨rfl, e7⟩
                  go_wp2
                  go_ret
                  refine ⟨?_, ((he.trans (E5.trans E6)).trans e7)⟩
                  have ha : anyTo (fun i => !atB (eqT shLayer) l l2 i) n0 = true := anyTo_true.2 ⟨i, hlt, by rw [Hb]; rfl⟩
                  rw [ha, HS.out]; rfl
                | true =>
                  rw [Bool.true_and] at Hb
                  cases e5 with
                  | false =>
                    rw [Bool.false_and] at Hb
                    go_wp2_with (first | ((with_reducible show wpList _ _ _ (Oper.mk _ (Op.indexAddr _ _ _) _ _ _ _ :: Oper.mk _ (Op.load _ _) _ _ _ _ :: _) _ _); refine wl_idxloadE (s := shLayer) (j := i) rfl rfl rfl rfl (fun _ => rfl) rfl rfl rfl hp' L1.size L1.cnt hlt hs1 E1.out ?_) | ((with_reducible show wpList _ _ _ (Oper.mk _ (Op.store _ _ _) _ _ _ _ :: _) _ _); refine wl_stA (s := shLayer) (cs := [.int .i64 x1, .int .i64 x2, .int .i64 x3, .slice pw x4.length cw, .slice pb x5.length cb]) rfl rfl rfl rfl (heap_alloc_new _ _) rfl Z1.out O1.out (by decide) ?_; intro w5 c5 ch5; have E5 : Ext wr w5 := (Ext.alloc _ _).chg ch5 (fun b hb => by subst hb; exact Nat.le_refl _); clear ch5; have r0 := E5.cell a0; have r1 := E5.cell a1) | ((with_reducible show wpList _ _ _ (Oper.mk _ (Op.indexAddr _ _ _) _ _ _ _ :: Oper.mk _ (Op.load _ _) _ _ _ _ :: _) _ _); refine wl_idxloadE (s := shLayer) (j := i) rfl rfl rfl rfl (fun _ => rfl) rfl rfl rfl (hq'.ext E5) L2.size L2.cnt hlt hs2 E2.out ?_) | ((with_reducible show wpList _ _ _ (Oper.mk _ (Op.store _ _ _) _ _ _ _ :: _) _ _); refine wl_stA (s := shLayer) (cs := [.int .i64 y1, .int .i64 y2, .int .i64 y3, .slice qw y4.length dw, .slice qb y5.length db]) rfl rfl rfl rfl (heap_alloc_new _ _) rfl Z2.out O2.out (by decide) ?_; intro w6 c6 ch6; have E6 : Ext w5 w6 := (Ext.alloc _ _).chg ch6 (fun b hb => by subst hb; exact Nat.le_refl _); clear ch6; have t0 := cellJ (j := 0) (c5.ext E6) rfl; have v0 := cellJ (j := 0) c6 rfl; have t1 := cellJ (j := 1) (c5.ext E6) rfl; have v1 := cellJ (j := 1) c6 rfl; have t2 := cellJ (j := 2) (c5.ext E6) rfl; have v2 := cellJ (j := 2) c6 rfl; have t3 := cellJ (j := 3) (c5.ext E6) rfl; have v3 := cellJ (j := 3) c6 rfl; have t4 := cellJ (j := 4) (c5.ext E6) rfl; have v4 := cellJ (j := 4) c6 rfl))
                    refine (C4.out _ (he.trans (E5.trans E6))).mono ?_
                    rintro e w7 ⟨rfl, e7⟩
                    have z4 := e7.cell t4
                    have y4' := e7.cell v4
                    go_wp2_with fail
                    refine (C5.out _ ((he.trans (E5.trans E6)).trans e7)).mono ?_
                    rintro e w8 ⟨rfl, e8⟩
                    go_wp2
                    go_ret
                    refine ⟨?_, (((he.trans (E5.trans E6)).trans e7).trans e8)⟩
                    have ha : anyTo (fun i => !atB (eqT shLayer) l l2 i) n0 = true := anyTo_true.2 ⟨i, hlt, by rw [Hb]; rfl⟩
                    rw [ha, HS.out]; rfl
                  | true =>
                    rw [Bool.true_and] at Hb
                    go_wp2_with (first | ((with_reducible show wpList _ _ _ (Oper.mk _ (Op.indexAddr _ _ _) _ _ _ _ :: Oper.mk _ (Op.load _ _) _ _ _ _ :: _) _ _); refine wl_idxloadE (s := shLayer) (j := i) rfl rfl rfl rfl (fun _ => rfl) rfl rfl rfl hp' L1.size L1.cnt hlt hs1 E1.out ?_) | ((with_reducible show wpList _ _ _ (Oper.mk _ (Op.store _ _ _) _ _ _ _ :: _) _ _); refine wl_stA (s := shLayer) (cs := [.int .i64 x1, .int .i64 x2, .int .i64 x3, .slice pw x4.length cw, .slice pb x5.length cb]) rfl rfl rfl rfl (heap_alloc_new _ _) rfl Z1.out O1.out (by decide) ?_; intro w5 c5 ch5; have E5 : Ext wr w5 := (Ext.alloc _ _).chg ch5 (fun b hb => by subst hb; exact Nat.le_refl _); clear ch5; have r0 := E5.cell a0; have r1 := E5.cell a1) | ((with_reducible show wpList _ _ _ (Oper.mk _ (Op.indexAddr _ _ _) _ _ _ _ :: Oper.mk _ (Op.load _ _) _ _ _ _ :: _) _ _); refine wl_idxloadE (s := shLayer) (j := i) rfl rfl rfl rfl (fun _ => rfl) rfl rfl rfl (hq'.ext E5) L2.size L2.cnt hlt hs2 E2.out ?_) | ((with_reducible show wpList _ _ _ (Oper.mk _ (Op.store _ _ _) _ _ _ _ :: _) _ _); refine wl_stA (s := shLayer) (cs := [.int .i64 y1, .int .i64 y2, .int .i64 y3, .slice qw y4.length dw, .slice qb y5.length db]) rfl rfl rfl rfl (heap_alloc_new _ _) rfl Z2.out O2.out (by decide) ?_; intro w6 c6 ch6; have E6 : Ext w5 w6 := (Ext.alloc _ _).chg ch6 (fun b hb => by subst hb; exact Nat.le_refl _); clear ch6; have t0 := cellJ (j := 0) (c5.ext E6) rfl; have v0 := cellJ (j := 0) c6 rfl; have t1 := cellJ (j := 1) (c5.ext E6) rfl; have v1 := cellJ (j := 1) c6 rfl; have t2 := cellJ (j := 2) (c5.ext E6) rfl; have v2 := cellJ (j := 2) c6 rfl; have t3 := cellJ (j := 3) (c5.ext E6) rfl; have v3 := cellJ (j := 3) c6 rfl; have t4 := cellJ (j := 4) (c5.ext E6) rfl; have v4 := cellJ (j := 4) c6 rfl))
                    refine (C4.out _ (he.trans (E5.trans E6))).mono ?_
                    rintro e w7 ⟨rfl, e7⟩
                    have z4 := e7.cell t4
                    have y4' := e7.cell v4
                    go_wp2_with fail
                    refine (C5.out _ ((he.trans (E5.trans E6)).trans e7)).mono ?_
                    rintro e w8 ⟨rfl, e8⟩
                    go_wp2
                    go_roundw
                    case rel => exact ⟨i + 1, by omega, by go_num, hid fun j hj => (if hji : j = i then hji ▸ Hb else HallL.out j (by omega)), (((he.trans (E5.trans E6)).trans e7).trans e8)⟩
                    case measure => simp [intOf]; omega
              · rw [decide_eq_false g3', Bool.false_and] at Hb
                have Q3 := bne_t g3'
                clear g3'
                go_wp2_with (first | ((with_reducible show wpList _ _ _ (Oper.mk _ (Op.indexAddr _ _ _) _ _ _ _ :: Oper.mk _ (Op.load _ _) _ _ _ _ :: _) _ _); refine wl_idxloadE (s := shLayer) (j := i) rfl rfl rfl rfl (fun _ => rfl) rfl rfl rfl hp' L1.size L1.cnt hlt hs1 E1.out ?_) | ((with_reducible show wpList _ _ _ (Oper.mk _ (Op.store _ _ _) _ _ _ _ :: _) _ _); refine wl_stA (s := shLayer) (cs := [.int .i64 x1, .int .i64 x2, .int .i64 x3, .slice pw x4.length cw, .slice pb x5.length cb]) rfl rfl rfl rfl (heap_alloc_new _ _) rfl Z1.out O1.out (by decide) ?_; intro w5 c5 ch5; have E5 : Ext wr w5 := (Ext.alloc _ _).chg ch5 (fun b hb => by subst hb; exact Nat.le_refl _); clear ch5; have r0 := E5.cell a0; have r1 := E5.cell a1) | ((with_reducible show wpList _ _ _ (Oper.mk _ (Op.indexAddr _ _ _) _ _ _ _ :: Oper.mk _ (Op.load _ _) _ _ _ _ :: _) _ _); refine wl_idxloadE (s := shLayer) (j := i) rfl rfl rfl rfl (fun _ => rfl) rfl rfl rfl (hq'.ext E5) L2.size L2.cnt hlt hs2 E2.out ?_) | ((with_reducible show wpList _ _ _ (Oper.mk _ (Op.store _ _ _) _ _ _ _ :: _) _ _); refine wl_stA (s := shLayer) (cs := [.int .i64 y1, .int .i64 y2, .int .i64 y3, .slice qw y4.length dw, .slice qb y5.length db]) rfl rfl rfl rfl (heap_alloc_new _ _) rfl Z2.out O2.out (by decide) ?_; intro w6 c6 ch6; have E6 : Ext w5 w6 := (Ext.alloc _ _).chg ch6 (fun b hb => by subst hb; exact Nat.le_refl _); clear ch6; have t0 := cellJ (j := 0) (c5.ext E6) rfl; have v0 := cellJ (j := 0) c6 rfl; have t1 := cellJ (j := 1) (c5.ext E6) rfl; have v1 := cellJ (j := 1) c6 rfl; have t2 := cellJ (j := 2) (c5.ext E6) rfl; have v2 := cellJ (j := 2) c6 rfl; have t3 := cellJ (j := 3) (c5.ext E6) rfl; have v3 := cellJ (j := 3) c6 rfl; have t4 := cellJ (j := 4) (c5.ext E6) rfl; have v4 := cellJ (j := 4) c6 rfl))
                go_ret
                refine ⟨?_, (he.trans (E5.trans E6))⟩
                have ha : anyTo (fun i => !atB (eqT shLayer) l l2 i) n0 = true := anyTo_true.2 ⟨i, hlt, by rw [Hb]; rfl⟩
                rw [ha, HS.out]; rfl
            · rw [decide_eq_false g2', Bool.false_and] at Hb
              have Q2 := bne_t g2'
              clear g2'
              go_wp2_with (first | ((with_reducible show wpList _ _ _ (Oper.mk _ (Op.indexAddr _ _ _) _ _ _ _ :: Oper.mk _ (Op.load _ _) _ _ _ _ :: _) _ _); refine wl_idxloadE (s := shLayer) (j := i) rfl rfl rfl rfl (fun _ => rfl) rfl rfl rfl hp' L1.size L1.cnt hlt hs1 E1.out ?_) | ((with_reducible show wpList _ _ _ (Oper.mk _ (Op.store _ _ _) _ _ _ _ :: _) _ _); refine wl_stA (s := shLayer) (cs := [.int .i64 x1, .int .i64 x2, .int .i64 x3, .slice pw x4.length cw, .slice pb x5.length cb]) rfl rfl rfl rfl (heap_alloc_new _ _) rfl Z1.out O1.out (by decide) ?_; intro w5 c5 ch5; have E5 : Ext wr w5 := (Ext.alloc _ _).chg ch5 (fun b hb => by subst hb; exact Nat.le_refl _); clear ch5; have r0 := E5.cell a0; have r1 := E5.cell a1) | ((with_reducible show wpList _ _ _ (Oper.mk _ (Op.indexAddr _ _ _) _ _ _ _ :: Oper.mk _ (Op.load _ _) _ _ _ _ :: _) _ _); refine wl_idxloadE (s := shLayer) (j := i) rfl rfl rfl rfl (fun _ => rfl) rfl rfl rfl (hq'.ext E5) L2.size L2.cnt hlt hs2 E2.out ?_) | ((with_reducible show wpList _ _ _ (Oper.mk _ (Op.store _ _ _) _ _ _ _ :: _) _ _); refine wl_stA (s := shLayer) (cs := [.int .i64 y1, .int .i64 y2, .int .i64 y3, .slice qw y4.length dw, .slice qb y5.length db]) rfl rfl rfl rfl (heap_alloc_new _ _) rfl Z2.out O2.out (by decide) ?_; intro w6 c6 ch6; have E6 : Ext w5 w6 := (Ext.alloc _ _).chg ch6 (fun b hb => by subst hb; exact Nat.le_refl _); clear ch6; have t0 := cellJ (j := 0) (c5.ext E6) rfl; have v0 := cellJ (j := 0) c6 rfl; have t1 := cellJ (j := 1) (c5.ext E6) rfl; have v1 := cellJ (j := 1) c6 rfl; have t2 := cellJ (j := 2) (c5.ext E6) rfl; have v2 := cellJ (j := 2) c6 rfl; have t3 := cellJ (j := 3) (c5.ext E6) rfl; have v3 := cellJ (j := 3) c6 rfl; have t4 := cellJ (j := 4) (c5.ext E6) rfl; have v4 := cellJ (j := 4) c6 rfl))
              go_ret
              refine ⟨?_, (he.trans (E5.trans E6))⟩
              have ha : anyTo (fun i => !atB (eqT shLayer) l l2 i) n0 = true := anyTo_true.2 ⟨i, hlt, by rw [Hb]; rfl⟩
              rw [ha, HS.out]; rfl
          · rw [decide_eq_false g1', Bool.false_and] at Hb
            have Q1 := bne_t g1'
            clear g1'
            go_wp2_with (first | ((with_reducible show wpList _ _ _ (Oper.mk _ (Op.indexAddr _ _ _) _ _ _ _ :: Oper.mk _ (Op.load _ _) _ _ _ _ :: _) _ _); refine wl_idxloadE (s := shLayer) (j := i) rfl rfl rfl rfl (fun _ => rfl) rfl rfl rfl hp' L1.size L1.cnt hlt hs1 E1.out ?_) | ((with_reducible show wpList _ _ _ (Oper.mk _ (Op.store _ _ _) _ _ _ _ :: _) _ _); refine wl_stA (s := shLayer) (cs := [.int .i64 x1, .int .i64 x2, .int .i64 x3, .slice pw x4.length cw, .slice pb x5.length cb]) rfl rfl rfl rfl (heap_alloc_new _ _) rfl Z1.out O1.out (by decide) ?_; intro w5 c5 ch5; have E5 : Ext wr w5 := (Ext.alloc _ _).chg ch5 (fun b hb => by subst hb; exact Nat.le_refl _); clear ch5; have r0 := E5.cell a0; have r1 := E5.cell a1) | ((with_reducible show wpList _ _ _ (Oper.mk _ (Op.indexAddr _ _ _) _ _ _ _ :: Oper.mk _ (Op.load _ _) _ _ _ _ :: _) _ _); refine wl_idxloadE (s := shLayer) (j := i) rfl rfl rfl rfl (fun _ => rfl) rfl rfl rfl (hq'.ext E5) L2.size L2.cnt hlt hs2 E2.out ?_) | ((with_reducible show wpList _ _ _ (Oper.mk _ (Op.store _ _ _) _ _ _ _ :: _) _ _); refine wl_stA (s := shLayer) (cs := [.int .i64 y1, .int .i64 y2, .int .i64 y3, .slice qw y4.length dw, .slice qb y5.length db]) rfl rfl rfl rfl (heap_alloc_new _ _) rfl Z2.out O2.out (by decide) ?_; intro w6 c6 ch6; have E6 : Ext w5 w6 := (Ext.alloc _ _).chg ch6 (fun b hb => by subst hb; exact Nat.le_refl _); clear ch6; have t0 := cellJ (j := 0) (c5.ext E6) rfl; have v0 := cellJ (j := 0) c6 rfl; have t1 := cellJ (j := 1) (c5.ext E6) rfl; have v1 := cellJ (j := 1) c6 rfl; have t2 := cellJ (j := 2) (c5.ext E6) rfl; have v2 := cellJ (j := 2) c6 rfl; have t3 := cellJ (j := 3) (c5.ext E6) rfl; have v3 := cellJ (j := 3) c6 rfl; have t4 := cellJ (j := 4) (c5.ext E6) rfl; have v4 := cellJ (j := 4) c6 rfl))
            go_ret
            refine ⟨?_, (he.trans (E5.trans E6))⟩
            have ha : anyTo (fun i => !atB (eqT shLayer) l l2 i) n0 = true := anyTo_true.2 ⟨i, hlt, by rw [Hb]; rfl⟩
            rw [ha, HS.out]; rfl
        · obtain rfl : i = n0 := by omega
          go_wp2
          go_ret
          refine ⟨?_, he⟩
          have ha : anyTo (fun i => !atB (eqT shLayer) l l2 i) i = false := anyTo_false fun j hj => by rw [HallL.out j hj]; rfl
          rw [ha, HS.out]; rfl
end Go.Proofs.Ythphfmngofbabaa
