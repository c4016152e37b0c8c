/- The law FnExactAreInSync answers true at every input. -/
import Derived.Test.YthphfmngofbabaaSyn3
import Derived.Test.YthphfmngofbabaaThings
namespace Go.Proofs.Ythphfmngofbabaa.lAreInSync
set_option linter.unusedSimpArgs false
set_option linter.unusedVariables false
open Go.RowKit

set_option maxRecDepth 100000 in
set_option maxHeartbeats 1000000 in
theorem law_any (cs0 : List Value) (D0 : Sh.T shModelS) (w : World) (h0 : Rep w shModelS cs0 D0) (f0 : Fit shModelS D0) : Calls Try.prog 7 #[ofCs shModelS cs0] w fun e w' => e = .returned (.bool true) ∧ Ext w w' := by
  have hl0 := hid h0.size
  have ho0 := hid h0.one
  obtain ⟨p0, q0, rfl, hm0⟩ := rep_val h0
  rw [show ofCs shModelS [.slice p0 (List.length D0) q0] = .slice p0 (List.length D0) q0 from rfl]
  have e0 := Ext.refl w
  obtain ⟨N0, hN0⟩ : ∃ N0, N0 = w.heap.size := ⟨_, rfl⟩
  have s := Nat.le_of_eq hN0
  have r0 := h0
  go_enter Try.func7, Try.ntmps7
  go_wp2_with fail
  refine (szModelS_ok [.slice p0 (List.length D0) q0] D0 1048576 _ r0 (by omega) (by omega)).mono ?_
  rintro e w1 ⟨⟨s1, rfl, hs1⟩, e1⟩
  replace e0 := e0.trans (e1)
  replace s := Nat.le_trans s (Ext.size (e1))
  replace r0 := h0.ext e0
  clear e1
  by_cases hn1 : s1 < 0
  · go_wp2
    go_ret
    exact ⟨rfl, e0⟩
  have hb0 : tot shModelS D0 ≤ 1048576 := by rcases hs1 with h | h; exact absurd h hn1; omega
  have hz1 : 0 ≤ s1 := by omega
  have ht1 : s1 ≤ 1048576 := by rcases hs1 with h | h; exact absurd h hn1; omega
  clear hs1
  go_wp2_with fail
  refine (toModelS_ok [.slice p0 (List.length D0) q0] D0 _ r0 hb0).mono ?_
  rintro e w2 ⟨c2, b2, rfl, o2, nd2, lo2, e2⟩
  have m2 := s
  have sz2 := Ext.size e2
  have lt2 := Own.lt o2
  replace e0 := e0.trans (e2)
  replace s := Nat.le_trans s (Ext.size (e2))
  replace r0 := h0.ext e0
  clear e2
  obtain ⟨N2, hN2⟩ : ∃ N, N = w2.heap.size := ⟨_, rfl⟩
  rw [← hN2] at sz2 lt2
  have s := Nat.le_of_eq hN2
  obtain ⟨p_c2, q_c2, rfl, hm_c2⟩ := rep_val o2.rep
  simp only [ofCs, Sh.agg, List.headD_cons, Bool.false_eq_true, if_false]
  go_wp2_with fail
  refine (spec_ok [.slice p_c2 (List.length D0) q_c2] D0 _ o2.rep f0).mono ?_
  rintro e w3 ⟨rfl, e3⟩
  have K := hid (fun y0 W => impl_ok y0 D0 W)
  generalize res D0 = r at *
  have m3 := s
  have sz3 := Ext.size e3
  replace e0 := e0.trans (e3)
  replace s := Nat.le_trans s (Ext.size (e3))
  replace o2 := o2.ext (e3)
  replace r0 := h0.ext e0
  clear e3
  obtain ⟨N3, hN3⟩ : ∃ N, N = w3.heap.size := ⟨_, rfl⟩
  rw [← hN3] at sz3 
  have s := Nat.le_of_eq hN3
  go_wp2_with fail
  refine (toModelS_ok [.slice p0 (List.length D0) q0] D0 _ r0 hb0).mono ?_
  rintro e w4 ⟨c4, b4, rfl, o4, nd4, lo4, e4⟩
  have m4 := s
  have sz4 := Ext.size e4
  have lt4 := Own.lt o4
  replace e0 := e0.trans (e4)
  replace s := Nat.le_trans s (Ext.size (e4))
  replace o2 := o2.ext (e4)
  replace r0 := h0.ext e0
  clear e4
  obtain ⟨N4, hN4⟩ : ∃ N, N = w4.heap.size := ⟨_, rfl⟩
  rw [← hN4] at sz4 lt4
  have s := Nat.le_of_eq hN4
  obtain ⟨p_c4, q_c4, rfl, hm_c4⟩ := rep_val o4.rep
  simp only [ofCs, Sh.agg, List.headD_cons, Bool.false_eq_true, if_false]
  go_wp2_with fail
  refine (K.out [.slice p_c4 (List.length D0) q_c4] _ o4.rep f0).mono ?_
  rintro e w5 ⟨rfl, e5⟩
  have m5 := s
  have sz5 := Ext.size e5
  replace e0 := e0.trans (e5)
  replace s := Nat.le_trans s (Ext.size (e5))
  replace o2 := o2.ext (e5)
  replace o4 := o4.ext (e5)
  replace r0 := h0.ext e0
  clear e5
  obtain ⟨N5, hN5⟩ : ∃ N, N = w5.heap.size := ⟨_, rfl⟩
  rw [← hN5] at sz5 
  have s := Nat.le_of_eq hN5
  go_wp2_with fail
  refine (toModelS_ok [.slice p0 (List.length D0) q0] D0 _ r0 hb0).mono ?_
  rintro e w6 ⟨c6, b6, rfl, o6, nd6, lo6, e6⟩
  have m6 := s
  have sz6 := Ext.size e6
  have lt6 := Own.lt o6
  replace e0 := e0.trans (e6)
  replace s := Nat.le_trans s (Ext.size (e6))
  replace o2 := o2.ext (e6)
  replace o4 := o4.ext (e6)
  replace r0 := h0.ext e0
  clear e6
  obtain ⟨N6, hN6⟩ : ∃ N, N = w6.heap.size := ⟨_, rfl⟩
  rw [← hN6] at sz6 lt6
  have s := Nat.le_of_eq hN6
  obtain ⟨p_c6, q_c6, rfl, hm_c6⟩ := rep_val o6.rep
  simp only [ofCs, Sh.agg, List.headD_cons, Bool.false_eq_true, if_false]
  go_wp2_with fail
  refine (eqModelS_ok [.slice p_c4 (List.length D0) q_c4] [.slice p_c6 (List.length D0) q_c6] D0 _ (o4.rep) (o6.rep) hb0).mono ?_
  rintro e w7 ⟨rfl, e7⟩
  replace e0 := e0.trans (e7)
  replace s := Nat.le_trans s (Ext.size (e7))
  replace o2 := o2.ext (e7)
  replace o4 := o4.ext (e7)
  replace o6 := o6.ext (e7)
  replace r0 := h0.ext e0
  clear e7
  go_wp2
  go_ret
  exact ⟨rfl, e0⟩
end Go.Proofs.Ythphfmngofbabaa.lAreInSync
