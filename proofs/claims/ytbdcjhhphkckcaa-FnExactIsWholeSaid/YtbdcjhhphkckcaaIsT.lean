/- IsWhole of the program and of the reference. -/
import Derived.Test.YtbdcjhhphkckcaaIsX
import Derived.Test.YtbdcjhhphkckcaaKc
import Derived.Test.YtbdcjhhphkckcaaKb
namespace Go.Proofs.Ytbdcjhhphkckcaa.lIsWhole
set_option linter.unusedSimpArgs false
set_option linter.unusedVariables false
open Go.RowKit Go.Proofs.Ytbdcjhhphkckcaa.Ex

def res (d : shLayer.T) (m : Int) : Bool := layD d && (inB m 1 1000 && ((d.2.2.2.1 : List Nat).all (fun x => wB x m.toNat) && (d.2.2.2.2.1 : List Nat).all (fun x => wB x m.toNat)))
theorem any_app {ws bs : List Nat} {M : Nat} : anyTo (fun i => !wB ((ws ++ bs).getD i 0) M) (ws.length + bs.length) = !(ws.all (fun x => wB x M) && bs.all (fun x => wB x M)) := by
  rw [← List.all_append, ← List.length_append]
  generalize ws ++ bs = xs
  cases h : xs.all (fun x => wB x M)
  · rw [Bool.not_false, anyTo_true]
    rw [List.all_eq_false] at h
    obtain ⟨x, hx, hf⟩ := h
    obtain ⟨i, hi, rfl⟩ := List.mem_iff_getElem.1 hx
    exact ⟨i, hi, by simpa [hi] using hf⟩
  · rw [Bool.not_true]
    refine anyTo_false fun i hi => ?_
    rw [List.all_eq_true] at h
    have := h xs[i] (by simp)
    simp [hi, this]
theorem f32s_app {u v : List Value} {a b : List Nat} (h : F32s u a) (k : F32s v b) : F32s (u ++ v) (a ++ b) := by
  refine ⟨by simp [h.1, k.1], fun i hi => ?_⟩
  by_cases hl : i < a.length
  · obtain ⟨r, h1, h2⟩ := h.2 i hl
    exact ⟨r, by rw [List.getElem?_append_left (by rw [h.1]; exact hl)]; exact h1, by rw [h2, List.getD_eq_getElem?_getD, List.getD_eq_getElem?_getD, List.getElem?_append_left hl]⟩
  · have hi2 : i - a.length < b.length := by rw [List.length_append] at hi; omega
    obtain ⟨r, h1, h2⟩ := k.2 (i - a.length) hi2
    exact ⟨r, by rw [List.getElem?_append_right (by rw [h.1]; omega), h.1]; exact h1, by rw [h2, List.getD_eq_getElem?_getD, List.getD_eq_getElem?_getD, List.getElem?_append_right (by omega)]⟩
theorem layB_len {k i o : Int} {nw nb : Nat} (h : layB k i o nw nb = true) : nw ≤ 64 ∧ nb ≤ 64 := by
  unfold layB at h
  simp only [Bool.and_eq_true, decide_eq_true_eq, inB_true, Bool.or_eq_true] at h
  obtain ⟨h1, h2, h3, h4, h5, h6⟩ := h
  have hm := mul_bd h2 h3
  unfold wCnt at h5
  unfold bCnt at h6
  constructor
  · revert h5; repeat' split
    all_goals omega
  · revert h6; repeat' split
    all_goals omega
set_option maxRecDepth 100000 in
set_option maxHeartbeats 4000000 in
theorem spec_ok (cs0 : List Value) (D0 : shLayer.T) (m : Int) (w : World) (h0 : Rep w shLayer cs0 D0) (f0 : Fit shLayer D0) (_ : Fit .int m) : Calls Try.prog 54 #[ofCs shLayer cs0, .int .i64 m] w (RetB w (res D0 m)) := by
  obtain ⟨pw, cw, pb, cb, uw, ub, rfl, ⟨x1, x2, x3⟩, ⟨y1, y2, y3⟩⟩ := lay_full h0
  obtain ⟨_, _, _, _, hcs, l1, l2⟩ := lay_vals h0
  clear hcs
  obtain ⟨d1, d2, d3, ws, bs, du⟩ := D0
  dsimp only at *
  simp only [ofCs, Sh.agg, if_true]
  have C1 := hid (fun W (h : Ext w W) (M : Nat) hM => l09Whole_any pw _ cw M uw ws W hM rfl l1 (x1.ext h) x2)
  have C2 := hid (fun W (h : Ext w W) (M : Nat) hM => l09Whole_any pb _ cb M ub bs W hM rfl l2 (y1.ext h) y2)
  have C0 := hid (fun W (bl : Nat) a0 a1 a2 a3 a4 => l03Layer_any (sp := none) bl 0 d1 d2 d3 pw pb _ cw _ cb W a0 a1 a2 a3 a4 l1 l2)
  unfold res layD
  dsimp only
  have E0 := Ext.alloc w (.cells #[.int .i64 d1, .int .i64 d2, .int .i64 d3, .slice pw ws.length cw, .slice pb bs.length cb] 98)
  have b0 := HB.new w #[.int .i64 d1, .int .i64 d2, .int .i64 d3, .slice pw ws.length cw, .slice pb bs.length cb] 98
  generalize hW : w.alloc (.cells #[.int .i64 d1, .int .i64 d2, .int .i64 d3, .slice pw ws.length cw, .slice pb bs.length cb] 98) = W0 at E0 b0
  have C0 := hid (C0.out W0 w.heap.size (b0.cell 0 rfl) (b0.cell 1 rfl) (b0.cell 2 rfl) (b0.cell 3 rfl) (b0.cell 4 rfl))
  clear h0 f0 x1 x2 x3 y1 y2 y3 l1 l2
  generalize layB d1 d2 d3 ws.length bs.length = b at *
  cases b
  · rw [Bool.false_and]
    go_enter Try.func54, Try.ntmps54
    go_wp2_with fail
    refine C0.out.mono ?_
    rintro e w1 ⟨rfl, e1⟩
    go_wp2
    go_ret
    exact ⟨rfl, E0.trans e1⟩
  cases hi : inB m 1 1000
  · rw [Bool.true_and, Bool.false_and]
    go_enter Try.func54, Try.ntmps54
    go_wp2_with fail
    refine C0.out.mono ?_
    rintro e w1 ⟨rfl, e1⟩
    go_wp2_with fail
    refine (l00In_any _ _ _ _).mono ?_
    rintro e w2 ⟨rfl, rfl⟩
    rw [hi]
    go_wp2
    go_ret
    exact ⟨rfl, E0.trans e1⟩
  have hm := inB_true.1 hi
  obtain ⟨M, rfl⟩ : ∃ M : Nat, m = M := ⟨m.toNat, by omega⟩
  have C1 := hid (fun W (h : Ext w W) => C1.out W h M (by omega))
  have C2 := hid (fun W (h : Ext w W) => C2.out W h M (by omega))
  rw [Int.toNat_natCast, Bool.true_and, Bool.true_and]
  generalize (ws.all fun x => wB x M) = p at *
  generalize (bs.all fun x => wB x M) = q at *
  cases p
  · go_enter Try.func54, Try.ntmps54
    go_wp2_with fail
    refine C0.out.mono ?_
    rintro e w1 ⟨rfl, e1⟩
    have n3 := (b0.ext e1).cell 3 rfl
    have n4 := (b0.ext e1).cell 4 rfl
    go_wp2_with fail
    refine (l00In_any _ _ _ _).mono ?_
    rintro e w2 ⟨rfl, rfl⟩
    rw [hi]
    go_wp2_with fail
    refine (C1.out _ (E0.trans e1)).mono ?_
    rintro e w2 ⟨rfl, e2⟩
    go_wp2
    go_ret
    exact ⟨rfl, E0.trans (e1.trans e2)⟩
  · go_enter Try.func54, Try.ntmps54
    go_wp2_with fail
    refine C0.out.mono ?_
    rintro e w1 ⟨rfl, e1⟩
    have n3 := (b0.ext e1).cell 3 rfl
    go_wp2_with fail
    refine (l00In_any _ _ _ _).mono ?_
    rintro e w2 ⟨rfl, rfl⟩
    rw [hi]
    go_wp2_with fail
    refine (C1.out _ (E0.trans e1)).mono ?_
    rintro e w2 ⟨rfl, e2⟩
    have n4 := (b0.ext (e1.trans e2)).cell 4 rfl
    go_wp2_with fail
    refine (C2.out _ (E0.trans (e1.trans e2))).mono ?_
    rintro e w3 ⟨rfl, e3⟩
    go_wp2
    go_ret
    exact ⟨rfl, E0.trans (e1.trans (e2.trans e3))⟩
set_option maxRecDepth 100000 in
set_option maxHeartbeats 4000000 in
theorem impl_ok (cs0 : List Value) (D0 : shLayer.T) (m : Int) (w : World) (h0 : Rep w shLayer cs0 D0) (f0 : Fit shLayer D0) (_ : Fit .int m) : Calls Try.prog 56 #[ofCs shLayer cs0, .int .i64 m] w (RetB w (res D0 m)) := by
  obtain ⟨pw, cw, pb, cb, uw, ub, rfl, ⟨x1, x2, x3⟩, ⟨y1, y2, y3⟩⟩ := lay_full h0
  obtain ⟨_, _, _, _, hcs, l1, l2⟩ := lay_vals h0
  clear hcs
  obtain ⟨d1, d2, d3, ws, bs, du⟩ := D0
  dsimp only at *
  simp only [ofCs, Sh.agg, if_true]
  have C0 := hid (fun W => ValidLayer_any d1 d2 d3 pw pb _ cw _ cb W l1 l2)
  unfold res layD
  dsimp only
  obtain ⟨W0, hW⟩ : ∃ W0, W0 = (w.alloc (.cells #[.int .i64 d1, .int .i64 d2, .int .i64 d3, .slice pw ws.length cw, .slice pb bs.length cb] 98)).alloc (.cells #[.int .i64 m] 2) := ⟨_, rfl⟩
  obtain ⟨E0, s0, b0, b1⟩ := box2 hW
  have b0 : HB W0 w.heap.size #[.int .i64 d1, .int .i64 d2, .int .i64 d3, .slice pw ws.length cw, .slice pb bs.length cb] 98 := b0
  have b1 : HB W0 (w.heap.size + 1) #[.int .i64 m] 2 := b1
  have k0 := b0.cell 0 rfl; have k1 := b0.cell 1 rfl; have k2 := b0.cell 2 rfl; have k3 := b0.cell 3 rfl; have k4 := b0.cell 4 rfl; have k5 := b1.cell 0 rfl
  by_cases hb : layB d1 d2 d3 ws.length bs.length = true
  rotate_left
  · have hb : layB d1 d2 d3 ws.length bs.length = false := by simpa using hb
    rw [hb, Bool.false_and]
    rw [hb] at C0
    clear x1 x2 x3 y1 y2 y3 hb
    generalize ws.length = nw at *
    generalize bs.length = nb at *
    go_enter Try.func56, Try.ntmps56
    go_wp2_with fail
    rw [← hW]
    clear hW
    refine (C0.out _).mono ?_
    rintro e w1 ⟨rfl, e1⟩
    go_wp2
    go_ret
    exact ⟨rfl, E0.trans e1⟩
  rw [hb] at C0
  rw [hb, Bool.true_and]
  cases hi : inB m 1 1000
  · rw [Bool.false_and]
    clear x1 x2 x3 y1 y2 y3 hb
    generalize ws.length = nw at *
    generalize bs.length = nb at *
    go_enter Try.func56, Try.ntmps56
    go_wp2_with fail
    rw [← hW]
    clear hW
    refine (C0.out _).mono ?_
    rintro e w1 ⟨rfl, e1⟩
    have k6 := (b1.ext e1).cell 0 rfl
    go_wp2_with fail
    refine (within_any _ _ _ _).mono ?_
    rintro e w2 ⟨rfl, rfl⟩
    rw [hi]
    go_wp2
    go_ret
    exact ⟨rfl, E0.trans e1⟩
  have hm := inB_true.1 hi
  obtain ⟨M, rfl⟩ : ∃ M : Nat, m = M := ⟨m.toNat, by omega⟩
  rw [Int.toNat_natCast, Bool.true_and]
  have hw1 := layB_len hb
  have G := hid (fun W (b : Nat) (h : Ext w W) z0 z1 => concatF_any b pw pb _ cw _ cb uw ub W (x1.ext h) (y1.ext h) x2.1 y2.1 x2.one y2.one x3 y3 (by omega) z0 z1)
  have C := hid (fun W (q k : _) (h1 : Cs W q (uw ++ ub)) (h2 : W.cell? ⟨w.heap.size + 1, 0, none⟩ = some (.int .i64 (M : Int))) => containsFuncF32_any 115 #[.pointer (some ⟨w.heap.size + 1, 0, none⟩)] (by intro args w; kernel_rfl) q (ws.length + bs.length) k (uw ++ ub) (fun i => !wB ((ws ++ bs).getD i 0) M) W (by rw [List.length_append, x2.1, y2.1]) (by unfold maxLen; omega) h1 (by
    intro i u W2 hu h2'
    have hf := f32s_app x2 y2
    have hi : i < (ws ++ bs).length := by rw [← hf.1]; exact (List.getElem?_eq_some_iff.1 hu).1
    obtain ⟨b, h3, h4⟩ := hf.2 i hi
    rw [hu] at h3
    cases h3
    have := wholeClos_any b M ⟨w.heap.size + 1, 0, none⟩ W2 (by omega) (h2'.cell h2)
    rw [← wB_cn b, h4] at this
    exact this))
  rw [any_app] at C
  clear x1 x2 x3 y1 y2 y3 hb hw1
  generalize ((ws.all fun x => wB x M) && (bs.all fun x => wB x M)) = r at *
  generalize ws.length = nw at *
  generalize bs.length = nb at *
  go_enter Try.func56, Try.ntmps56
  go_wp2_with fail
  rw [← hW]
  clear hW
  refine (C0.out _).mono ?_
  rintro e w1 ⟨rfl, e1⟩
  have k6 := (b1.ext e1).cell 0 rfl
  have k7 := (b0.ext e1).cell 3 rfl
  have k8 := (b0.ext e1).cell 4 rfl
  go_wp2_with fail
  refine (within_any _ _ _ _).mono ?_
  rintro e w2 ⟨rfl, rfl⟩
  rw [hi]
  go_wp2_with fail
  have eG := e1.trans (Ext.alloc w1 (.cells #[.slice pw nw cw, .slice pb nb cb] 25))
  refine (G.out _ _ (E0.trans eG) ((HB.new w1 #[.slice pw nw cw, .slice pb nb cb] 25).cell 0 rfl) ((HB.new w1 #[.slice pw nw cw, .slice pb nb cb] 25).cell 1 rfl)).mono ?_
  rintro e w3 ⟨q, k, rfl, own3, e3⟩
  go_wp2_with fail
  refine (C.out _ q k (ownRow_of own3).cs ((b1.ext (eG.trans e3)).cell 0 rfl)).mono ?_
  rintro e w4 ⟨rfl, e4⟩
  go_wp2
  go_ret
  exact ⟨by simp, E0.trans (eG.trans (e3.trans e4))⟩
end Go.Proofs.Ytbdcjhhphkckcaa.lIsWhole
