/- The law FnExactBatchOf answers true at every input. -/
import Derived.Test.YtmcafdcabbighaaBat3
import Derived.Test.YtmcafdcabbighaaI64
namespace Go.Proofs.Ytmcafdcabbighaa
set_option linter.unusedSimpArgs false
set_option linter.unusedVariables false
open Go.RowKit

set_option maxRecDepth 100000 in
set_option maxHeartbeats 1000000 in
theorem batLaw_any (n b s st : Int) (w : World) : Calls Try.prog 7 #[.int .i64 n, .int .i64 b, .int .i64 s, .int .i64 st] w fun e w' => e = .returned (.bool true) ∧ Ext w w' := by
  have hlen := batR_length n b s st
  generalize hr : batR n b s st = r at *
  have Hr := hid hr
  clear hr
  obtain ⟨xs, ok⟩ := r
  simp only at hlen
  generalize hL : xs.length = L at *
  have HL := hid hL
  clear hL
  go_enter Try.func7, Try.ntmps7
  go_wp2_with fail
  have c1 := specBatchOf_any n b s st w
  rw [Hr.out] at c1
  refine c1.mono ?_
  rintro e w1 ⟨p0, d0, rfl, own0, e1⟩
  simp only [HL.out] at own0 ⊢
  clear c1
  go_wp2_with fail
  have c1 := BatchOf_any n b s st w1
  rw [Hr.out] at c1
  refine c1.mono ?_
  rintro e w2 ⟨p1, d1, rfl, own1, e2⟩
  simp only [HL.out] at own1 ⊢
  clear c1
  have lt0 := hid (own_lt own0)
  have own0' := own_ext own0 e2
  go_wp2_with fail
  refine (eqInt64S_any _ _ _ _ _ _ _ _ _ HL.out HL.out (by omega) (own_Cs own1) (own_Cs own0')).mono ?_
  rintro e w3 ⟨rfl, e3⟩
  replace own1 := own_ext own1 e3
  replace own0 := own_ext own0' e3
  clear own0'
  go_wp2_with fail
  refine (markInt64S_any _ _ _ _ _ _ _ HL.out (by omega) (by omega) (by omega) own1).mono ?_
  rintro e w4 ⟨rfl, ownm, g4⟩
  have le1 := own_le own1
  replace own0 := own_apart own0 lt0.out le1 g4
  have e4 := ((e1.trans e2).trans e3).grown g4 (fun k hk => Nat.le_trans e1.size (le1 k hk))
  clear own1 le1 g4 lt0 e1 e2 e3
  go_wp2_with fail
  refine (heldInt64S_any _ _ _ _ _ (by omega) (by omega) (by omega) (own_Cs ownm)).mono ?_
  rintro e w5 ⟨rfl, rfl⟩
  go_wp2_with fail
  have c1 := BatchOf_any n b s st w4
  rw [Hr.out] at c1
  refine c1.mono ?_
  rintro e w5 ⟨p2, d2, rfl, own2, e5⟩
  simp only [HL.out] at own2 ⊢
  clear c1
  replace own0 := own_ext own0 e5
  replace ownm := own_ext ownm e5
  replace e4 := e4.trans e5
  clear e5
  go_wp2_with fail
  refine (eqInt64S_any _ _ _ _ _ _ _ _ _ HL.out HL.out (by omega) (own_Cs own2) (own_Cs own0)).mono ?_
  rintro e w6 ⟨rfl, e6⟩
  replace ownm := own_ext ownm e6
  replace e4 := e4.trans e6
  clear e6 own0 own2
  go_wp2_with fail
  refine (heldInt64S_any _ _ _ _ _ (by omega) (by omega) (by omega) (own_Cs ownm)).mono ?_
  rintro e w7 ⟨rfl, rfl⟩
  go_wp2
  go_ret
  exact ⟨rfl, e4⟩
end Go.Proofs.Ytmcafdcabbighaa
