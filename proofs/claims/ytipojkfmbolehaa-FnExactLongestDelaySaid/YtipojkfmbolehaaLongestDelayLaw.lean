/- The law FnExactLongestDelay answers true at every input. -/
import Derived.Test.YtipojkfmbolehaaLDel
import Derived.Test.YtipojkfmbolehaaAgg
import Derived.Test.YtipojkfmbolehaaLaw
import Derived.Test.YtipojkfmbolehaaOpen
namespace Go.Proofs.Ytipojkfmbolehaa.lLongestDelay
set_option linter.unusedSimpArgs false
set_option linter.unusedVariables false
open Go.RowKit

set_option maxRecDepth 100000 in
set_option maxHeartbeats 1000000 in
theorem law_any (cs0 : List Value) (D0 : shRequestS.T) (cs1 : List Value) (D1 : shAnswerS.T) (w : World) (h0 : Rep w shRequestS cs0 D0) (h1 : Rep w shAnswerS cs1 D1)  : Calls Try.prog 6 #[ofCs shRequestS cs0, ofCs shAnswerS cs1] w fun e w' => e = .returned (.bool true) ∧ Ext w w' := by
  have hl0 := hid h0.size
  have ho0 := hid h0.one
  obtain ⟨p0, q0, rfl, hm0⟩ := rep_val h0
  have hl1 := hid h1.size
  have ho1 := hid h1.one
  obtain ⟨p1, q1, rfl, hm1⟩ := rep_val h1
  have e0 := Ext.refl w
  have r0 := h0
  have r1 := h1
  go_enter Try.func6, Try.ntmps6
  go_wp2_with fail
  refine (szRequestS_ok [.slice p0 (List.length D0) q0] D0 1048576 _ r0 (by omega) (by omega)).mono ?_
  rintro e w1 ⟨⟨s1, rfl, hs1⟩, e101⟩
  replace e0 := e0.trans e101
  replace r0 := r0.ext e101
  replace r1 := r1.ext e101
  clear e101
  by_cases hn1 : s1 < 0
  · go_wp2
    go_ret
    exact ⟨rfl, e0⟩
  have hb0 : tot shRequestS D0 ≤ 1048576 := by rcases hs1 with h | h; exact absurd h hn1; omega
  have hz1 : 0 ≤ s1 := by omega
  have ht1 : s1 ≤ 1048576 := by rcases hs1 with h | h; exact absurd h hn1; omega
  clear hs1
  go_wp2_with fail
  refine (szAnswerS_ok [.slice p1 (List.length D1) q1] D1 s1 _ r1 (by omega) (by omega)).mono ?_
  rintro e w2 ⟨⟨s2, rfl, hs2⟩, e102⟩
  replace e0 := e0.trans e102
  replace r0 := r0.ext e102
  replace r1 := r1.ext e102
  clear e102
  by_cases hn2 : s2 < 0
  · go_wp2
    go_ret
    exact ⟨rfl, e0⟩
  have hb1 : tot shAnswerS D1 ≤ 1048576 := by rcases hs2 with h | h; exact absurd h hn2; omega
  have hz2 : 0 ≤ s2 := by omega
  have ht2 : s2 ≤ 1048576 := by rcases hs2 with h | h; exact absurd h hn2; omega
  clear hs2
  go_wp2_with fail
  refine (toRequestS_ok [.slice p0 (List.length D0) q0] D0 _ r0 hb0).mono ?_
  rintro e w3 ⟨cs_3, bs_3, rfl, own_3, nd_3, lo_3, e_3⟩
  replace e0 := e0.trans e_3
  replace r0 := r0.ext e_3
  replace r1 := r1.ext e_3
  have rx_3 := own_3.rep
  clear own_3 nd_3 lo_3 e_3
  obtain ⟨px_3, qx_3, rfl, hm_3⟩ := rep_val rx_3
  simp only [ofCs, Sh.agg, List.headD_cons, Bool.false_eq_true, if_false] at rx_3 ⊢
  go_wp2_with fail
  refine (toAnswerS_ok [.slice p1 (List.length D1) q1] D1 _ r1 hb1).mono ?_
  rintro e w4 ⟨cs_4, bs_4, rfl, own_4, nd_4, lo_4, e_4⟩
  replace e0 := e0.trans e_4
  replace r0 := r0.ext e_4
  replace r1 := r1.ext e_4
  replace rx_3 := rx_3.ext e_4
  have rx_4 := own_4.rep
  clear own_4 nd_4 lo_4 e_4
  obtain ⟨px_4, qx_4, rfl, hm_4⟩ := rep_val rx_4
  simp only [ofCs, Sh.agg, List.headD_cons, Bool.false_eq_true, if_false] at rx_4 ⊢
  go_wp2_with fail
  refine (spec_ok [.slice px_3 (List.length D0) qx_3] D0 [.slice px_4 (List.length D1) qx_4] D1 _ rx_3 rx_4 ).mono ?_
  rintro e w5 ⟨rfl, e_5⟩
  replace e0 := e0.trans e_5
  replace r0 := r0.ext e_5
  replace r1 := r1.ext e_5
  replace rx_3 := rx_3.ext e_5
  replace rx_4 := rx_4.ext e_5
  clear e_5
  have K := hid (fun y0 y1 W => impl_ok y0 D0 y1 D1 W)
  generalize res D0 D1 = r at *
  obtain ⟨z0, z1⟩ := r
  go_wp2_with fail
  refine (toRequestS_ok [.slice p0 (List.length D0) q0] D0 _ r0 hb0).mono ?_
  rintro e w6 ⟨cs_6, bs_6, rfl, own_6, nd_6, lo_6, e_6⟩
  replace e0 := e0.trans e_6
  replace r0 := r0.ext e_6
  replace r1 := r1.ext e_6
  replace rx_3 := rx_3.ext e_6
  replace rx_4 := rx_4.ext e_6
  have rx_6 := own_6.rep
  clear own_6 nd_6 lo_6 e_6
  obtain ⟨px_6, qx_6, rfl, hm_6⟩ := rep_val rx_6
  simp only [ofCs, Sh.agg, List.headD_cons, Bool.false_eq_true, if_false] at rx_6 ⊢
  go_wp2_with fail
  refine (toAnswerS_ok [.slice p1 (List.length D1) q1] D1 _ r1 hb1).mono ?_
  rintro e w7 ⟨cs_7, bs_7, rfl, own_7, nd_7, lo_7, e_7⟩
  replace e0 := e0.trans e_7
  replace r0 := r0.ext e_7
  replace r1 := r1.ext e_7
  replace rx_3 := rx_3.ext e_7
  replace rx_4 := rx_4.ext e_7
  replace rx_6 := rx_6.ext e_7
  have rx_7 := own_7.rep
  clear own_7 nd_7 lo_7 e_7
  obtain ⟨px_7, qx_7, rfl, hm_7⟩ := rep_val rx_7
  simp only [ofCs, Sh.agg, List.headD_cons, Bool.false_eq_true, if_false] at rx_7 ⊢
  go_wp2_with fail
  refine (K.out [.slice px_6 (List.length D0) qx_6] [.slice px_7 (List.length D1) qx_7] _ rx_6 rx_7 ).mono ?_
  rintro e w8 ⟨rfl, e_8⟩
  replace e0 := e0.trans e_8
  replace r0 := r0.ext e_8
  replace r1 := r1.ext e_8
  replace rx_3 := rx_3.ext e_8
  replace rx_4 := rx_4.ext e_8
  replace rx_6 := rx_6.ext e_8
  replace rx_7 := rx_7.ext e_8
  clear e_8
  go_wp2_with fail
  refine (toRequestS_ok [.slice p0 (List.length D0) q0] D0 _ r0 hb0).mono ?_
  rintro e w9 ⟨cs_9, bs_9, rfl, own_9, nd_9, lo_9, e_9⟩
  replace e0 := e0.trans e_9
  replace r0 := r0.ext e_9
  replace r1 := r1.ext e_9
  replace rx_3 := rx_3.ext e_9
  replace rx_4 := rx_4.ext e_9
  replace rx_6 := rx_6.ext e_9
  replace rx_7 := rx_7.ext e_9
  have rx_9 := own_9.rep
  clear own_9 nd_9 lo_9 e_9
  obtain ⟨px_9, qx_9, rfl, hm_9⟩ := rep_val rx_9
  simp only [ofCs, Sh.agg, List.headD_cons, Bool.false_eq_true, if_false] at rx_9 ⊢
  go_wp2_with fail
  refine (eqRequestS_ok [.slice px_6 (List.length D0) qx_6] [.slice px_9 (List.length D0) qx_9] D0 _ rx_6 rx_9 hb0).mono ?_
  rintro e w10 ⟨rfl, e_10⟩
  replace e0 := e0.trans e_10
  replace r0 := r0.ext e_10
  replace r1 := r1.ext e_10
  replace rx_3 := rx_3.ext e_10
  replace rx_4 := rx_4.ext e_10
  replace rx_6 := rx_6.ext e_10
  replace rx_7 := rx_7.ext e_10
  replace rx_9 := rx_9.ext e_10
  clear e_10
  go_wp2_with fail
  refine (toAnswerS_ok [.slice p1 (List.length D1) q1] D1 _ r1 hb1).mono ?_
  rintro e w11 ⟨cs_11, bs_11, rfl, own_11, nd_11, lo_11, e_11⟩
  replace e0 := e0.trans e_11
  replace r0 := r0.ext e_11
  replace r1 := r1.ext e_11
  replace rx_3 := rx_3.ext e_11
  replace rx_4 := rx_4.ext e_11
  replace rx_6 := rx_6.ext e_11
  replace rx_7 := rx_7.ext e_11
  replace rx_9 := rx_9.ext e_11
  have rx_11 := own_11.rep
  clear own_11 nd_11 lo_11 e_11
  obtain ⟨px_11, qx_11, rfl, hm_11⟩ := rep_val rx_11
  simp only [ofCs, Sh.agg, List.headD_cons, Bool.false_eq_true, if_false] at rx_11 ⊢
  go_wp2_with fail
  refine (eqAnswerS_ok [.slice px_7 (List.length D1) qx_7] [.slice px_11 (List.length D1) qx_11] D1 _ rx_7 rx_11 hb1).mono ?_
  rintro e w12 ⟨rfl, e_12⟩
  replace e0 := e0.trans e_12
  replace r0 := r0.ext e_12
  replace r1 := r1.ext e_12
  replace rx_3 := rx_3.ext e_12
  replace rx_4 := rx_4.ext e_12
  replace rx_6 := rx_6.ext e_12
  replace rx_7 := rx_7.ext e_12
  replace rx_9 := rx_9.ext e_12
  replace rx_11 := rx_11.ext e_12
  clear e_12
  go_wp2
  go_ret
  exact ⟨rfl, e0⟩
end Go.Proofs.Ytipojkfmbolehaa.lLongestDelay
