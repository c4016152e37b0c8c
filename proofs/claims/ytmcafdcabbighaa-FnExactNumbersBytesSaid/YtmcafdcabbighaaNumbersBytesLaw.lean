/- The law FnExactNumbersBytes answers true at every input. -/
import Derived.Test.YtmcafdcabbighaaNumB
import Derived.Test.YtmcafdcabbighaaAgg
import Derived.Test.YtmcafdcabbighaaLaw
import Derived.Test.YtmcafdcabbighaaOpen
namespace Go.Proofs.Ytmcafdcabbighaa.lNumbersBytes
set_option linter.unusedSimpArgs false
set_option linter.unusedVariables false
open Go.RowKit

set_option maxRecDepth 100000 in
set_option maxHeartbeats 1000000 in
theorem law_any (cs0 : List Value) (D0 : Sh.T (.sl .flt)) (w : World) (h0 : Rep w (.sl .flt) cs0 D0)  : Calls Try.prog 6 #[ofCs (.sl .flt) cs0] w fun e w' => e = .returned (.bool true) ∧ Ext w w' := by
  have hl0 := hid h0.size
  have ho0 := hid h0.one
  obtain ⟨p0, q0, rfl, hm0⟩ := rep_val h0
  rw [show ofCs (.sl .flt) [.slice p0 (List.length D0) q0] = .slice p0 (List.length D0) q0 from rfl]
  have e0 := Ext.refl w
  have r0 := h0
  by_cases hbig0 : 1048576 < List.length D0
  · clear r0 h0
    unfold maxLen at hm0
    generalize List.length D0 = n at *
    go_enter Try.func6, Try.ntmps6
    go_wp2
    go_ret
    exact ⟨rfl, e0⟩
  have hb0 : tot (.sl .flt) D0 ≤ 1048576 := by rw [tot_flts]; omega
  go_enter Try.func6, Try.ntmps6
  go_wp2_with fail
  refine (toFloat32S_ok [.slice p0 (List.length D0) q0] D0 _ r0 hb0).mono ?_
  rintro e w1 ⟨cs_1, bs_1, rfl, own_1, nd_1, lo_1, e_1⟩
  replace e0 := e0.trans e_1
  replace r0 := r0.ext e_1
  have rx_1 := own_1.rep
  clear own_1 nd_1 lo_1 e_1
  obtain ⟨px_1, qx_1, rfl, hm_1⟩ := rep_val rx_1
  simp only [ofCs, Sh.agg, List.headD_cons, Bool.false_eq_true, if_false] at rx_1 ⊢
  go_wp2_with fail
  refine (spec_ok [.slice px_1 (List.length D0) qx_1] D0 _ rx_1 ).mono ?_
  rintro e w2 ⟨rfl, e_2⟩
  replace e0 := e0.trans e_2
  replace r0 := r0.ext e_2
  replace rx_1 := rx_1.ext e_2
  clear e_2
  have K := hid (fun y0 W => impl_ok y0 D0 W)
  generalize res D0 = r at *
  obtain ⟨z0, z1⟩ := r
  go_wp2_with fail
  refine (toFloat32S_ok [.slice p0 (List.length D0) q0] D0 _ r0 hb0).mono ?_
  rintro e w3 ⟨cs_3, bs_3, rfl, own_3, nd_3, lo_3, e_3⟩
  replace e0 := e0.trans e_3
  replace r0 := r0.ext e_3
  replace rx_1 := rx_1.ext e_3
  have rx_3 := own_3.rep
  clear own_3 nd_3 lo_3 e_3
  obtain ⟨px_3, qx_3, rfl, hm_3⟩ := rep_val rx_3
  simp only [ofCs, Sh.agg, List.headD_cons, Bool.false_eq_true, if_false] at rx_3 ⊢
  go_wp2_with fail
  refine (K.out [.slice px_3 (List.length D0) qx_3] _ rx_3 ).mono ?_
  rintro e w4 ⟨rfl, e_4⟩
  replace e0 := e0.trans e_4
  replace r0 := r0.ext e_4
  replace rx_1 := rx_1.ext e_4
  replace rx_3 := rx_3.ext e_4
  clear e_4
  go_wp2_with fail
  refine (toFloat32S_ok [.slice p0 (List.length D0) q0] D0 _ r0 hb0).mono ?_
  rintro e w5 ⟨cs_5, bs_5, rfl, own_5, nd_5, lo_5, e_5⟩
  replace e0 := e0.trans e_5
  replace r0 := r0.ext e_5
  replace rx_1 := rx_1.ext e_5
  replace rx_3 := rx_3.ext e_5
  have rx_5 := own_5.rep
  clear own_5 nd_5 lo_5 e_5
  obtain ⟨px_5, qx_5, rfl, hm_5⟩ := rep_val rx_5
  simp only [ofCs, Sh.agg, List.headD_cons, Bool.false_eq_true, if_false] at rx_5 ⊢
  go_wp2_with fail
  refine (eqFloat32S_ok [.slice px_3 (List.length D0) qx_3] [.slice px_5 (List.length D0) qx_5] D0 _ rx_3 rx_5 hb0).mono ?_
  rintro e w6 ⟨rfl, e_6⟩
  replace e0 := e0.trans e_6
  replace r0 := r0.ext e_6
  replace rx_1 := rx_1.ext e_6
  replace rx_3 := rx_3.ext e_6
  replace rx_5 := rx_5.ext e_6
  clear e_6
  go_wp2
  go_ret
  exact ⟨rfl, e0⟩
end Go.Proofs.Ytmcafdcabbighaa.lNumbersBytes
