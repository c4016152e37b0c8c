/- PickRows of the program. -/
import Derived.Test.YtbdcjhhphkckcaaPick2
import Derived.Test.YtbdcjhhphkckcaaCpyM
import Derived.Test.YtbdcjhhphkckcaaKb
namespace Go.Proofs.Ytbdcjhhphkckcaa.lPickRows
set_option linter.unusedSimpArgs false
set_option linter.unusedVariables false
open Go.RowKit

theorem exa_vals {w : World} {cs : List Value} {D : shExamples.T} (h : Rep w shExamples cs D) : ∃ p1 q1 u1 p2 q2 u2, cs = [.int .i64 D.1.1, .int .i64 D.1.2.1, .slice p1 (D.1.2.2.1 : List Nat).length q1, .int .i64 D.2.1.1, .int .i64 D.2.1.2.1, .slice p2 (D.2.1.2.2.1 : List Nat).length q2] ∧
    (Cs w p1 u1 ∧ F32s u1 D.1.2.2.1 ∧ (D.1.2.2.1 : List Nat).length ≤ q1 ∧ q1 ≤ maxLen) ∧ (Cs w p2 u2 ∧ F32s u2 D.2.1.2.2.1 ∧ (D.2.1.2.2.1 : List Nat).length ≤ q2 ∧ q2 ≤ maxLen) := by
  obtain ⟨d1, d2, du⟩ := D
  obtain ⟨_, _, rfl, h1, _, _, rfl, h2, rfl⟩ := h
  obtain ⟨p1, q1, u1, rfl, a1, a2, a3, a4⟩ := ten_vals h1
  obtain ⟨p2, q2, u2, rfl, b1, b2, b3, b4⟩ := ten_vals h2
  exact ⟨p1, q1, u1, p2, q2, u2, rfl, ⟨a1, a2, a3, a4⟩, ⟨b1, b2, b3, b4⟩⟩
def okP (d : shExamples.T) (l : List Int) : Prop := lExa.exa d = true ∧ inB (l.length : Int) 1 16 = true ∧ lblB d.1.1 l = true
instance (d : shExamples.T) (l : List Int) : Decidable (okP d l) := by unfold okP; infer_instance
def pk (t : shTensor.T) (l : List Int) : shTensor.T := ((l.length : Int), t.2.1, pickF t.2.2.1 t.2.1.toNat l l.length, ())
def noE : shExamples.T := ((0, 0, [], ()), (0, 0, [], ()), ())
def res (d : shExamples.T) (l : List Int) : shExamples.T × Bool := if okP d l then ((pk d.1 l, pk d.2.1 l, ()), true) else (noE, false)
theorem res_no {d : shExamples.T} {l : List Int} (h : ¬ okP d l) : res d l = (noE, false) := by unfold res; rw [if_neg h]
theorem own_exa {w : World} {r1 c1 r2 c2 : Int} {q1 q2 : Option Addr} {n1 k1 n2 k2 : Nat} {xs ys : List Nat} {b1 b2 : List Nat} (h1 : Own w shTensor [.int .i64 r1, .int .i64 c1, .slice q1 n1 k1] (r1, c1, xs, ()) b1) (h2 : Own w shTensor [.int .i64 r2, .int .i64 c2, .slice q2 n2 k2] (r2, c2, ys, ()) b2) :
    Own w shExamples [.int .i64 r1, .int .i64 c1, .slice q1 n1 k1, .int .i64 r2, .int .i64 c2, .slice q2 n2 k2] ((r1, c1, xs, ()), (r2, c2, ys, ()), ()) (b1 ++ b2) :=
  ⟨[.int .i64 r1, .int .i64 c1, .slice q1 n1 k1], [.int .i64 r2, .int .i64 c2, .slice q2 n2 k2], b1, b2, rfl, h1, ⟨[.int .i64 r2, .int .i64 c2, .slice q2 n2 k2], [], b2, [], rfl, h2, ⟨rfl, rfl⟩, by simp⟩, rfl⟩
theorem out_no {w : World} {t : TypeId} {en : Ending} {w' : World} (h : en = .returned (.tuple #[.agg #[.int .i64 0, .int .i64 0, .slice none 0 0, .int .i64 0, .int .i64 0, .slice none 0 0], .bool false])) (hx : Ext w w') : OutT w t shExamples (noE, false) en w' :=
  ⟨[.int .i64 0, .int .i64 0, .slice none 0 0, .int .i64 0, .int .i64 0, .slice none 0 0], [], h, own_exa (xs := []) (ys := []) (own_ten (n := 0) (xs := []) rfl own_nil) (own_ten (n := 0) (xs := []) rfl own_nil), by simp, by simp, by simp, hx⟩
theorem ret_isY {w w' : World} {r c : Int} {xs : List Nat} {e : Ending} (h : RetTen w r c xs e w') : ∃ q k, e = .returned (.agg #[.int .i64 r, .int .i64 c, .slice q xs.length k]) ∧ Ext w w' ∧ IsOwnY [22] w.heap.size (.sl .flt) w' [.slice q xs.length k] xs := by
  obtain ⟨q, k, vs, h1, h2, h3, h4⟩ := h
  obtain ⟨q', k', bs, g1, g2, g3, g4, g5, g6⟩ := retFl_thing3 rfl (⟨q, k, vs, rfl, h2, h3, h4⟩ : RetFl w xs (.returned (.slice q xs.length k)) w')
  simp only [Ending.returned.injEq, Value.slice.injEq, true_and] at g1
  obtain ⟨rfl, rfl⟩ := g1
  exact ⟨q, k, h1, h4, bs, g2, g3, g4, g6⟩
theorem exa_true {r1 c1 : Int} {n1 : Nat} {r2 c2 : Int} {n2 : Nat} (h : exaB r1 c1 n1 r2 c2 n2 = true) : tenB r1 c1 n1 = true ∧ tenB r2 c2 n2 = true ∧ r1 = r2 := by
  unfold exaB at h
  simp only [Bool.and_eq_true, decide_eq_true_eq] at h
  exact h
theorem res_bd (d : shExamples.T) (l : List Int) (_ : tot shExamples d ≤ 1048576) (_ : tot (.sl .int) l ≤ 1048576) (_ : Fit shExamples d) (_ : Fit (.sl .int) l) : tot shExamples (res d l).1 ≤ 1048576 := by
  unfold res
  split
  · rename_i h
    obtain ⟨⟨r1, c1, xs, u1⟩, ⟨r2, c2, ys, u2⟩, u⟩ := d
    obtain ⟨h1, h2, h3⟩ := h
    obtain ⟨k1, k2, k3⟩ := exa_true h1
    dsimp only at k1 k2 k3 h3
    obtain ⟨R, C, e1, e2, hR, hR1, hC, hC1, hn⟩ := tenB_of k1
    obtain ⟨R2, C2, e3, e4, hR2, hR3, hC2, hC3, hn2⟩ := tenB_of k2
    have hRR : R2 = R := by omega
    rw [hRR] at hn2
    rw [e1] at h3
    subst e2 e4
    rw [inB_true] at h2
    have hin := lblB_in h3
    have a1 := pickF_len (C := C) hn hin l.length (Nat.le_refl _)
    have a2 := pickF_len (C := C2) hn2 hin l.length (Nat.le_refl _)
    have m1 := Nat.mul_le_mul (show l.length ≤ 16 by omega) hC1
    have m2 := Nat.mul_le_mul (show l.length ≤ 16 by omega) hC3
    unfold pk
    dsimp only [Int.toNat_natCast]
    generalize pickF xs C l l.length = z at *
    generalize pickF ys C2 l l.length = z2 at *
    have h5 : tot shExamples (((l.length : Int), (C : Int), z, ()), ((l.length : Int), (C2 : Int), z2, ()), ()) = tot (.sl .flt) z + tot (.sl .flt) z2 := by simp only [tot]; omega
    have h6 : tot shExamples (((l.length : Int), (C : Int), z, ()), ((l.length : Int), (C2 : Int), z2, ()), ()) ≤ 1048576 := by rw [h5, tot_flts, tot_flts]; omega
    exact h6
  · simp [noE, tot]
set_option maxRecDepth 100000 in
set_option maxHeartbeats 1000000 in
theorem clos_ok (g : Nat) (O n : Int) (W : World) (hO : 1 ≤ O ∧ O ≤ 16) (h1 : W.cell? ⟨g, 0, none⟩ = some (.int .i64 O)) : Calls Try.prog 90 #[.int .i64 n, .pointer (some ⟨g, 0, none⟩)] W fun e w' => e = .returned (.bool (!inB n 0 (O - 1))) ∧ Ext W w' := by
  have q : IntKind.i64.wrap (O - 1) = O - 1 := wrap_in _ (by omega) (by omega)
  have K := within_any n 0 (O - 1) W
  generalize inB n 0 (O - 1) = b at *
  go_enter Try.func90, Try.ntmps90
  go_wp2_with (go_at_call 91; refine K.mono ?_; rintro e w' ⟨rfl, rfl⟩)
  go_ret
  exact ⟨rfl, Ext.refl _⟩
set_option maxRecDepth 100000 in
set_option maxHeartbeats 4000000 in
theorem impl_ok (cs0 : List Value) (D0 : shExamples.T) (cs1 : List Value) (D1 : List Int) (w : World) (h0 : Rep w shExamples cs0 D0) (h1 : Rep w (.sl .int) cs1 D1) (_ : Fit shExamples D0) (_ : Fit (.sl .int) D1) : Calls Try.prog 33 #[ofCs shExamples cs0, ofCs (.sl .int) cs1] w (OutT w 43 shExamples (res D0 D1)) := by
  obtain ⟨p1, q1, u1, p2, q2, u2, rfl, ⟨a1, a2, a3, a4⟩, ⟨b1, b2, b3, b4⟩⟩ := exa_vals h0
  obtain ⟨p3, c3, rfl, hl3, hnc3, hcm3⟩ := rep_ints.1 h1
  obtain ⟨⟨r1, k1, xs, v1⟩, ⟨r2, k2, ys, v2⟩, v3⟩ := D0
  dsimp only at a2 a3 b2 b3 ⊢
  simp only [ofCs, Sh.agg, if_true, if_false, Bool.false_eq_true, List.headD_cons]
  have hx1 : xs.length ≤ maxLen := Nat.le_trans a3 a4
  have hx2 : ys.length ≤ maxLen := Nat.le_trans b3 b4
  have hx3 : D1.length ≤ maxLen := Nat.le_trans hnc3 hcm3
  obtain ⟨W0, hW0⟩ : ∃ W0, W0 = (w.alloc (.cells #[.int .i64 r1, .int .i64 k1, .slice p1 xs.length q1, .int .i64 r2, .int .i64 k2, .slice p2 ys.length q2] 43)).alloc (.cells #[.int .i64 0, .int .i64 0, .slice none 0 0, .int .i64 0, .int .i64 0, .slice none 0 0] 43) := ⟨_, rfl⟩
  obtain ⟨E0, s0, c0, c1⟩ := box2 hW0
  have c0 : HB W0 w.heap.size #[.int .i64 r1, .int .i64 k1, .slice p1 xs.length q1, .int .i64 r2, .int .i64 k2, .slice p2 ys.length q2] 43 := c0
  have c1 : HB W0 (w.heap.size + 1) #[.int .i64 0, .int .i64 0, .slice none 0 0, .int .i64 0, .int .i64 0, .slice none 0 0] 43 := c1
  have A := hid (fun W (h : Ext W0 W) => ValidExamples_any r1 k1 p1 xs.length q1 r2 k2 p2 ys.length q2 W hx1 hx2)
  have B := hid (fun W => isSide_any (D1.length : Int) W)
  clear h0 h1
  cases hb0 : exaB r1 k1 xs.length r2 k2 ys.length
  · rw [res_no (fun h => by have := h.1; unfold lExa.exa at this; dsimp only at this; rw [hb0] at this; cases this)]
    rw [hb0] at A
    clear a1 a2 a3 b1 b2 b3 hl3 hnc3 B hb0
    generalize xs.length = n1 at *
    generalize ys.length = n2 at *
    generalize D1.length = n3 at *
    go_enter Try.func33, Try.ntmps33
    go_wp2_with fail
    rw [← hW0]
    clear hW0
    refine (A.out _ (Ext.refl _)).mono ?_
    rintro e w1 ⟨rfl, e1⟩
    have f1 := c1.ext e1
    have n0 := f1.cell 0 rfl; have n1 := f1.cell 1 rfl; have n2 := f1.cell 2 rfl; have n3 := f1.cell 3 rfl; have n4 := f1.cell 4 rfl; have n5 := f1.cell 5 rfl
    have m0 := f1.froz 0; have m1 := f1.froz 1; have m2 := f1.froz 2; have m3 := f1.froz 3; have m4 := f1.froz 4; have m5 := f1.froz 5
    go_wp2
    refine bodyPost_ret (v := .tuple #[.agg #[.int .i64 0, .int .i64 0, .slice none 0 0, .int .i64 0, .int .i64 0, .slice none 0 0], .bool false]) (by simp [results, Try.results33, go_sem, n0, n1, n2, n3, n4, n5, m0, m1, m2, m3, m4, m5]) rfl ?_
    exact out_no rfl (by have := E0.trans e1; (repeat (first | with_reducible exact Ext.refl _ | with_reducible assumption | ((with_reducible refine Ext.setCell ?_ ?_ _); rotate_left; focus (first | (simp; done) | (simp; omega))) | (with_reducible refine Ext.trans ?_ (Ext.alloc _ _)) | (with_reducible refine Ext.trans ?_ (Ext.drew _)) | (with_reducible refine Ext.trans ?_ (by with_reducible assumption)))))
  rw [hb0] at A
  obtain ⟨t1, t2, rfl⟩ := exa_true hb0
  obtain ⟨R, C, e1, e2, hR, hR1, hC, hC1, hn⟩ := tenB_of t1
  obtain ⟨R2, C2, e3, e4, hR2, hR3, hC2, hC3, hn2⟩ := tenB_of t2
  have hRR : R2 = R := by omega
  subst hRR
  subst e1 e2 e4
  clear e3 hR2 hR3 t1 t2
  cases hb1 : inB (D1.length : Int) 1 16
  · rw [res_no (fun h => by have := h.2.1; rw [hb1] at this; cases this)]
    rw [hb1] at B
    clear a1 a2 a3 b1 b2 b3 hl3 hnc3 hb0 hn hn2 hb1
    generalize xs.length = n1 at *
    generalize ys.length = n2 at *
    generalize D1.length = n3 at *
    unfold maxLen at hx3
    go_enter Try.func33, Try.ntmps33
    go_wp2_with fail
    rw [← hW0]
    clear hW0
    refine (A.out _ (Ext.refl _)).mono ?_
    rintro e w1 ⟨rfl, e1⟩
    have f1 := c1.ext e1
    have n0 := f1.cell 0 rfl; have n1 := f1.cell 1 rfl; have n2 := f1.cell 2 rfl; have n3 := f1.cell 3 rfl; have n4 := f1.cell 4 rfl; have n5 := f1.cell 5 rfl
    have m0 := f1.froz 0; have m1 := f1.froz 1; have m2 := f1.froz 2; have m3 := f1.froz 3; have m4 := f1.froz 4; have m5 := f1.froz 5
    go_wp2_with (go_at_call 88; refine (B.out _).mono ?_; rintro e w2 ⟨rfl, rfl⟩)
    refine bodyPost_ret (v := .tuple #[.agg #[.int .i64 0, .int .i64 0, .slice none 0 0, .int .i64 0, .int .i64 0, .slice none 0 0], .bool false]) (by simp [results, Try.results33, go_sem, n0, n1, n2, n3, n4, n5, m0, m1, m2, m3, m4, m5]) rfl ?_
    exact out_no rfl (by have := E0.trans e1; (repeat (first | with_reducible exact Ext.refl _ | with_reducible assumption | ((with_reducible refine Ext.setCell ?_ ?_ _); rotate_left; focus (first | (simp; done) | (simp; omega))) | (with_reducible refine Ext.trans ?_ (Ext.alloc _ _)) | (with_reducible refine Ext.trans ?_ (Ext.drew _)) | (with_reducible refine Ext.trans ?_ (by with_reducible assumption)))))
  rw [hb1] at B
  have hb1' := hb1
  rw [inB_true] at hb1'
  have CF := hid (fun W (h : Ext W0 W) => containsFuncInt_any 90 #[.pointer (some ⟨w.heap.size, 0, none⟩)] (by intro args w; kernel_rfl) p3 D1.length c3 _ (fun i => !inB (D1.getD i 0) 0 ((R2 : Int) - 1)) W (by simp) hx3 (hl3.ext (E0.trans h)) (by
    intro i u W' hu hW
    rw [List.getElem?_map, Option.map_eq_some_iff] at hu
    obtain ⟨y, hy, rfl⟩ := hu
    have : D1.getD i 0 = y := by simp [hy]
    dsimp only
    rw [this]
    exact clos_ok w.heap.size R2 y W' (by omega) ((c0.ext (h.trans hW)).cell 0 rfl)))
  rw [lblB_any] at CF
  cases hb2 : lblB (R2 : Int) D1
  · rw [res_no (fun h => by have := h.2.2; dsimp only at this; rw [hb2] at this; cases this)]
    rw [hb2, Bool.not_false] at CF
    clear a1 a2 a3 b1 b2 b3 hl3 hnc3 hb0 hn hn2 hb1 hb2
    generalize xs.length = n1 at *
    generalize ys.length = n2 at *
    generalize D1.length = n3 at *
    go_enter Try.func33, Try.ntmps33
    go_wp2_with fail
    rw [← hW0]
    clear hW0
    refine (A.out _ (Ext.refl _)).mono ?_
    rintro e w1 ⟨rfl, e1⟩
    go_wp2_with fail
    refine (B.out _).mono ?_
    rintro e w2 ⟨rfl, rfl⟩
    go_wp2_with fail
    refine (CF.out _ e1).mono ?_
    rintro e w3 ⟨rfl, e3⟩
    have f1 := c1.ext (e1.trans e3)
    have n0 := f1.cell 0 rfl; have n1 := f1.cell 1 rfl; have n2 := f1.cell 2 rfl; have n3 := f1.cell 3 rfl; have n4 := f1.cell 4 rfl; have n5 := f1.cell 5 rfl
    have m0 := f1.froz 0; have m1 := f1.froz 1; have m2 := f1.froz 2; have m3 := f1.froz 3; have m4 := f1.froz 4; have m5 := f1.froz 5
    go_wp2
    refine bodyPost_ret (v := .tuple #[.agg #[.int .i64 0, .int .i64 0, .slice none 0 0, .int .i64 0, .int .i64 0, .slice none 0 0], .bool false]) (by simp [results, Try.results33, go_sem, n0, n1, n2, n3, n4, n5, m0, m1, m2, m3, m4, m5]) rfl ?_
    exact out_no rfl (by have := E0.trans (e1.trans e3); (repeat (first | with_reducible exact Ext.refl _ | with_reducible assumption | ((with_reducible refine Ext.setCell ?_ ?_ _); rotate_left; focus (first | (simp; done) | (simp; omega))) | (with_reducible refine Ext.trans ?_ (Ext.alloc _ _)) | (with_reducible refine Ext.trans ?_ (Ext.drew _)) | (with_reducible refine Ext.trans ?_ (by with_reducible assumption)))))
  rw [hb2, Bool.not_true] at CF
  have hok : okP ((R2, C, xs, v1), (R2, C2, ys, v2), v3) D1 := ⟨hb0, hb1, hb2⟩
  rw [show res ((R2, C, xs, v1), (R2, C2, ys, v2), v3) D1 = ((((D1.length : Int), (C : Int), pickF xs C D1 D1.length, ()), ((D1.length : Int), (C2 : Int), pickF ys C2 D1 D1.length, ()), ()), true) from by unfold res; rw [if_pos hok]; rfl]
  have hin := lblB_in hb2
  have G1 := hid (fun W (h : Ext w W) => picked_any p1 p3 R2 C q1 D1.length c3 D1 u1 xs W hR1 hC1 hn (by rw [← hn]; exact a3) a4 (a1.ext h) a2 rfl (by omega) hin (hl3.ext h))
  have G2 := hid (fun W (h : Ext w W) => picked_any p2 p3 R2 C2 q2 D1.length c3 D1 u2 ys W hR1 hC3 hn2 (by rw [← hn2]; exact b3) b4 (b1.ext h) b2 rfl (by omega) hin (hl3.ext h))
  rw [← hn] at G1
  rw [← hn2] at G2
  clear a1 a2 a3 b1 b2 b3 hl3 hnc3 hb0 hn hn2 hb1 hb2 hok hin
  generalize pickF xs C D1 D1.length = P1 at *
  generalize pickF ys C2 D1 D1.length = P2 at *
  generalize xs.length = n1 at *
  generalize ys.length = n2 at *
  generalize D1.length = n3 at *
  obtain ⟨F, hF⟩ : ∃ F : Option Tmp → World → World → Value → Prop, F = fun d w0 W u => match d with | some 24 => ∃ q k, u = .agg #[.int .i64 n3, .int .i64 C, .slice q P1.length k] ∧ IsOwnY [22] w0.heap.size (.sl .flt) W [.slice q P1.length k] P1 | _ => ∃ q k, u = .agg #[.int .i64 n3, .int .i64 C2, .slice q P2.length k] ∧ IsOwnY [22] w0.heap.size (.sl .flt) W [.slice q P2.length k] P2 := ⟨_, rfl⟩
  have HF := hid hF
  clear hF
  go_enter Try.func33, Try.ntmps33
  go_wp2_with fail
  rw [← hW0]
  clear hW0
  refine (A.out _ (Ext.refl _)).mono ?_
  rintro e w1 ⟨rfl, e1⟩
  go_wp2_with fail
  refine (B.out _).mono ?_
  rintro e w2 ⟨rfl, rfl⟩
  go_wp2_with fail
  refine (CF.out _ e1).mono ?_
  rintro e w3 ⟨rfl, e9⟩
  go_wp2
  have hD := (e1.trans e9).trans (Ext.drew w3)
  have d0 := c0.ext hD
  have y0 := d0.cell 0 rfl; have y1 := d0.cell 1 rfl; have y2 := d0.cell 2 rfl; have y3 := d0.cell 3 rfl; have y4 := d0.cell 4 rfl; have y5 := d0.cell 5 rfl
  have hWD := E0.trans hD
  refine wp_region_yt 8 (F := F) (by kernel_rfl) (by kernel_rfl) (by kernel_rfl) (by kernel_rfl) (by kernel_rfl) ?_
  intro wf hwf
  simp only [List.take_succ_cons, List.take_zero, List.drop_succ_cons, List.drop_zero]
  repeat (first
    | (refine x_skip rfl ?_; simp only [Act.put, ev_tmp, List.setIfInBounds_toArray, List.set_cons_succ, List.set_cons_zero, List.getD_cons_succ, List.getD_cons_zero])
    | (refine x_mv rfl rfl rfl ?_; simp only [Act.put, ev_tmp, List.setIfInBounds_toArray, List.set_cons_succ, List.set_cons_zero, List.getD_cons_succ, List.getD_cons_zero])
    | (refine x_as rfl rfl rfl ?_; simp only [Act.put, ev_tmp, List.setIfInBounds_toArray, List.set_cons_succ, List.set_cons_zero, List.getD_cons_succ, List.getD_cons_zero])
    | ((with_reducible show wpX _ _ _ _ _ _ (Oper.mk _ (Op.call _) _ _ _ _ :: _) _); refine y_callK (f := 92) (args := #[.agg #[.int .i64 R2, .int .i64 C, .slice p1 n1 q1], .slice p3 n3 c3]) rfl rfl Try.func92 rfl (by kernel_rfl) ?_ ?_ ?_; (focus (simp [Act.eval]; done)); (focus (intro w1 hw1 hK; exact (by rw [HF.out]; exact (G1.out w1 (hWD.trans hw1)).mono fun e w3 h => by obtain ⟨q, k, g1, g2, g3⟩ := ret_isY h; exact ⟨_, g1, g2, q, k, rfl, g3⟩))); rintro u wa wb e0 hK e3 e4 hu; simp only [HF.out] at hu; obtain ⟨qa, ka, rfl, _⟩ := hu; simp only [Act.put, ev_tmp, List.setIfInBounds_toArray, List.set_cons_succ, List.set_cons_zero, List.getD_cons_succ, List.getD_cons_zero])
    | ((with_reducible show wpX _ _ _ _ _ _ (Oper.mk _ (Op.call _) _ _ _ _ :: _) _); refine y_callK (f := 92) (args := #[.agg #[.int .i64 R2, .int .i64 C2, .slice p2 n2 q2], .slice p3 n3 c3]) rfl rfl Try.func92 rfl (by kernel_rfl) ?_ ?_ ?_; (focus (simp [Act.eval]; done)); (focus (intro w1 hw1 hK; exact (by rw [HF.out]; exact (G2.out w1 (hWD.trans hw1)).mono fun e w3 h => by obtain ⟨q, k, g1, g2, g3⟩ := ret_isY h; exact ⟨_, g1, g2, q, k, rfl, g3⟩))); rintro u wa wb e0 hK e3 e4 hu; simp only [HF.out] at hu; obtain ⟨qb, kb, rfl, o2⟩ := hu; obtain ⟨v0, v3', f0, f1, f2, f3⟩ := knownC_call hK (j := 3) (d := 24) (by kernel_rfl) rfl rfl rfl rfl Try.func92 rfl (by kernel_rfl) (by simp); rw [HF.out] at f3; obtain ⟨qc, kc, hqc, o1⟩ := f3; have hqd : Value.agg #[.int .i64 n3, .int .i64 C, .slice qa P1.length ka] = .agg #[.int .i64 n3, .int .i64 C, .slice qc P1.length kc] := hqc; simp only [Value.agg.injEq, Array.mk.injEq, List.cons.injEq, Value.slice.injEq, and_true, true_and] at hqd; obtain ⟨rfl, rfl⟩ := hqd; simp only [Act.put, ev_tmp, List.setIfInBounds_toArray, List.set_cons_succ, List.set_cons_zero, List.getD_cons_succ, List.getD_cons_zero])
    | (refine x_run rfl fun K hK w1 hw1 => ?_; have k0 := hw1.cell (y0); have k1 := hw1.cell (y1); have k2 := hw1.cell (y2); have k3 := hw1.cell (y3); have k4 := hw1.cell (y4); have k5 := hw1.cell (y5); go_simp; refine hK _ ?_; clear hK K k0 k1 k2 k3 k4 k5 hw1 w1))
  refine x_nil ?_
  obtain ⟨bs1, p1', p2', p3', p4'⟩ := o1
  obtain ⟨bs2, s1', s2', s3', s4'⟩ := o2
  have p7 := p1'.lt
  have r1 := p1'.ext ((f2.trans e3).trans e4)
  have r2 := s1'.ext e4
  have eW := hD.trans hwf
  have f9 := c1.ext eW
  have z0 := f9.cell 0 rfl; have z1 := f9.cell 1 rfl; have z2 := f9.cell 2 rfl; have z3 := f9.cell 3 rfl; have z4 := f9.cell 4 rfl; have z5 := f9.cell 5 rfl
  have x0 := f9.froz 0; have x1 := f9.froz 1; have x2 := f9.froz 2; have x3 := f9.froz 3; have x4 := f9.froz 4; have x5 := f9.froz 5
  have q1' := f0.size
  have q2' := e0.size
  have q3' := hD.size
  have q4' := f2.size
  have lo1 : ∀ b ∈ bs1, W0.heap.size ≤ b := fun b hb => by have := p3' b hb; omega
  have lo2 : ∀ b ∈ bs2, W0.heap.size ≤ b := fun b hb => by have := s3' b hb; omega
  have ty1 := (p4'.ext ((f2.trans e3).trans e4))
  have ty2 := (s4'.ext e4)
  have hnd := nodup_app p2' s2' (B := wa.heap.size) (fun x hx => by have := p7 x hx; omega) (fun x hx => s3' x hx)
  clear p1' s1' p2' s2' p3' s3' p4' s4' p7 A B CF G1 G2 d0 y0 y1 y2 y3 y4 y5
  go_wp2
  refine bodyPost_ret (v := .tuple #[.agg #[.int .i64 n3, .int .i64 C, .slice qa P1.length ka, .int .i64 n3, .int .i64 C2, .slice qb P2.length kb], .bool true]) (by simp [results, Try.results33, go_sem, z0, z1, z2, z3, z4, z5, x0, x1, x2, x3, x4, x5]) rfl ?_
  generalize hWf : World.setCell _ _ _ = WF
  have ch : Chg (fun b => b = w.heap.size + 1) wf WF := by subst hWf; (repeat (first | with_reducible exact Chg.refl _ _ | (with_reducible exact Chg.of_ext (by with_reducible assumption)) | with_reducible assumption | ((with_reducible refine Chg.setCell ?_ ?_ _); rotate_left; focus (first | (simp; done) | (simp; omega))) | (with_reducible refine Chg.alloc ?_ _) | (with_reducible refine Chg.drew ?_) | (with_reducible refine Chg.trans ?_ (Chg.of_ext (by with_reducible assumption)))))
  clear hWf
  exact ⟨[.int .i64 n3, .int .i64 C, .slice qa P1.length ka, .int .i64 n3, .int .i64 C2, .slice qb P2.length kb], bs1 ++ bs2, rfl, own_exa (own_ten rfl (r1.chg ch (fun b hb h => by have := lo1 b hb; omega))) (own_ten rfl (r2.chg ch (fun b hb h => by have := lo2 b hb; omega))), hnd, fun b hb => by
    rcases List.mem_append.1 hb with h | h
    · have := lo1 b h; omega
    · have := lo2 b h; omega, ((ty1.app ty2).chg ch (fun b hb h => by
      rcases List.mem_append.1 hb with h' | h'
      · have := lo1 b h'; omega
      · have := lo2 b h'; omega)).no (by decide), (E0.trans eW).chg ch (fun b hb => by omega)⟩
end Go.Proofs.Ytbdcjhhphkckcaa.lPickRows
