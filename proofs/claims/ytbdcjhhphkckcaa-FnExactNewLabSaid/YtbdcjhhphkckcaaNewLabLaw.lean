/- The law FnExactNewLab answers true. -/
import Derived.Test.YtbdcjhhphkckcaaNewL3
import Derived.Test.YtbdcjhhphkckcaaKf
namespace Go.Proofs.Ytbdcjhhphkckcaa.lNewLab
set_option linter.unusedSimpArgs false
set_option linter.unusedVariables false
open Go.RowKit

theorem tot0 : tot shLab lab0 ≤ 1048576 := by decide
set_option maxRecDepth 100000 in
set_option maxHeartbeats 4000000 in
theorem law_any (w : World) : Calls Try.prog 5 #[] w fun e w' => e = .returned (.bool true) ∧ Ext w w' := by
  have KS := hid (fun W => spec_ok W)
  have K := hid (fun W => impl_ok W)
  have ht := tot0
  have B := mkV_bd shLab (by decide) lab0 1
  generalize hd0 : lab0 = D at *
  generalize hmk : (mkV shLab D 1).2 = k at *
  go_enter Try.func5, Try.ntmps5
  go_wp2_with fail
  refine (KS.out _).mono ?_
  rintro e w1 ⟨cS, bS, rfl, oS, ndS, loS, e1⟩
  have hlS := hid oS.rep.size
  have hoS := hid oS.rep.one
  have ltS := oS.lt
  go_wp2_with ((with_reducible show wpList _ _ _ (Oper.mk _ (Op.store _ _ _) _ _ _ _ :: _) _ _); refine wl_stA (s := shLab) (cs := cS) rfl rfl rfl rfl (by first | exact heap_alloc_new _ _ | exact heap_alloc_old2 _ _ _) rfl hlS.out hoS.out (by decide) ?_; intro w2 c2 ch2; have E2 := Ext.of_chg1 ch2; clear ch2)
  have oS2 := oS.ext E2
  refine (K.out _).mono ?_
  rintro e w3 ⟨cI, bI, rfl, oI, ndI, loI, e3⟩
  have hlI := hid oI.rep.size
  have hoI := hid oI.rep.one
  have ltI := oI.lt
  have c3 := c2.ext e3
  have oS3 := oS2.ext e3
  have z1 := e1.size
  have z3 := e3.size
  have v2 := Cs.blkLt c2 (by rw [hlS.out]; decide)
  clear c2 oS2
  go_wp2_with (first | ((with_reducible show wpList _ _ _ (Oper.mk _ (Op.store _ _ _) _ _ _ _ :: _) _ _); refine wl_stA (s := shLab) (cs := cI) rfl rfl rfl rfl (by first | exact heap_alloc_new _ _ | exact heap_alloc_old2 _ _ _) rfl hlI.out hoI.out (by decide) ?_; intro w4 c4 ch4; have E4 := Ext.of_chg1 ch4; clear ch4; have c2 := c3.ext E4) | ((with_reducible show wpList _ _ _ (Oper.mk _ (Op.load _ _) _ _ _ _ :: _) _ _); refine wl_ldAw (s := shLab) (cs := cS) (by first | rfl | (go_simp; done) | (go_simp; omega)) rfl rfl c2 hlS.out ?_) | ((with_reducible show wpList _ _ _ (Oper.mk _ (Op.load _ _) _ _ _ _ :: _) _ _); refine wl_ldAw (s := shLab) (cs := cI) (by first | rfl | (go_simp; done) | (go_simp; omega)) rfl rfl c4 hlI.out ?_))
  have oS4 := oS3.ext E4
  have oI4 := oI.ext E4
  have z4 := E4.size
  have v4 := Cs.blkLt c4 (by rw [hlI.out]; decide)
  refine (eqLab_ok cI cS D _ oI4.rep oS4.rep ht).mono ?_
  rintro e w5 ⟨rfl, e5⟩
  replace c2 := c2.ext e5
  replace c4 := c4.ext e5
  have oS5 := oS4.ext e5
  have oI5 := oI4.ext e5
  have z5 := e5.size
  clear oS4 oI4 oS3 oI c3
  go_wp2_with (first | ((with_reducible show wpList _ _ _ (Oper.mk _ (Op.load _ _) _ _ _ _ :: _) _ _); refine wl_ldAw (s := shLab) (cs := cS) (by first | rfl | (go_simp; done) | (go_simp; omega)) rfl rfl c2 hlS.out ?_) | ((with_reducible show wpList _ _ _ (Oper.mk _ (Op.load _ _) _ _ _ _ :: _) _ _); refine wl_ldAw (s := shLab) (cs := cI) (by first | rfl | (go_simp; done) | (go_simp; omega)) rfl rfl c4 hlI.out ?_))
  refine (markLab_ok cI D bI 1 _ oI5 ndI (by omega) (by omega)).mono ?_
  rintro e w6 ⟨rfl, oM, ch6⟩
  rw [hmk]
  have z6 := ch6.size
  have c2' := Cs.chgB c2 ch6 (by omega) (fun h => by have := loI _ h; omega)
  have c4' := Cs.chgB c4 ch6 (by omega) (fun h => by have := ltI _ h; omega)
  have oS6 := oS5.chg ch6 (fun b hb h => by have := ltS b hb; have := loI b h; have := E2.size; omega)
  have x6 : Ext w w6 := (((e1.trans (E2.trans (e3.trans (E4.trans e5)))))).chg ch6 (fun b hb => by have := loI b hb; have := E2.size; omega)
  clear c2 c4 oS5 oI5 ch6
  have c2 := c2'
  have c4 := c4'
  clear c2' c4'
  go_wp2_with (first | ((with_reducible show wpList _ _ _ (Oper.mk _ (Op.load _ _) _ _ _ _ :: _) _ _); refine wl_ldAw (s := shLab) (cs := cS) (by first | rfl | (go_simp; done) | (go_simp; omega)) rfl rfl c2 hlS.out ?_) | ((with_reducible show wpList _ _ _ (Oper.mk _ (Op.load _ _) _ _ _ _ :: _) _ _); refine wl_ldAw (s := shLab) (cs := cI) (by first | rfl | (go_simp; done) | (go_simp; omega)) rfl rfl c4 hlI.out ?_))
  refine (heldLab_ok cI D 1 _ oM.rep (by omega) (by omega)).mono ?_
  rintro e w7 ⟨rfl, e7⟩
  rw [hmk]
  replace c2 := c2.ext e7
  replace c4 := c4.ext e7
  have oS7 := oS6.ext e7
  have oM7 := oM.ext e7
  clear oS6 oM
  have hk0 : decide (k < 0) = false := by simp; omega
  go_wp2_with fail
  refine (K.out _).mono ?_
  rintro e w8 ⟨cJ, bJ, rfl, oJ, ndJ, loJ, e8⟩
  have hlJ := hid oJ.rep.size
  have hoJ := hid oJ.rep.one
  replace c2 := c2.ext e8
  replace c4 := c4.ext e8
  have oS8 := oS7.ext e8
  have oM8 := oM7.ext e8
  clear oS7 oM7
  go_wp2_with (first | ((with_reducible show wpList _ _ _ (Oper.mk _ (Op.store _ _ _) _ _ _ _ :: _) _ _); refine wl_stA (s := shLab) (cs := cJ) rfl rfl rfl rfl (by first | exact heap_alloc_new _ _ | exact heap_alloc_old2 _ _ _) rfl hlJ.out hoJ.out (by decide) ?_; intro w9 c6 ch9; have E9 := Ext.of_chg1 ch9; clear ch9; replace c2 := c2.ext E9; replace c4 := c4.ext E9) | ((with_reducible show wpList _ _ _ (Oper.mk _ (Op.load _ _) _ _ _ _ :: _) _ _); refine wl_ldAw (s := shLab) (cs := cS) (by first | rfl | (go_simp; done) | (go_simp; omega)) rfl rfl c2 hlS.out ?_) | ((with_reducible show wpList _ _ _ (Oper.mk _ (Op.load _ _) _ _ _ _ :: _) _ _); refine wl_ldAw (s := shLab) (cs := cI) (by first | rfl | (go_simp; done) | (go_simp; omega)) rfl rfl c4 hlI.out ?_) | ((with_reducible show wpList _ _ _ (Oper.mk _ (Op.load _ _) _ _ _ _ :: _) _ _); refine wl_ldAw (s := shLab) (cs := cJ) (by first | rfl | (go_simp; done) | (go_simp; omega)) rfl rfl c6 hlJ.out ?_))
  refine (eqLab_ok cJ cS D _ (oJ.ext E9).rep (oS8.ext E9).rep ht).mono ?_
  rintro e w10 ⟨rfl, e10⟩
  replace c2 := c2.ext e10
  replace c4 := c4.ext e10
  replace c6 := c6.ext e10
  have oM10 := (oM8.ext E9).ext e10
  clear oM8 oS8
  go_wp2_with (first | ((with_reducible show wpList _ _ _ (Oper.mk _ (Op.load _ _) _ _ _ _ :: _) _ _); refine wl_ldAw (s := shLab) (cs := cS) (by first | rfl | (go_simp; done) | (go_simp; omega)) rfl rfl c2 hlS.out ?_) | ((with_reducible show wpList _ _ _ (Oper.mk _ (Op.load _ _) _ _ _ _ :: _) _ _); refine wl_ldAw (s := shLab) (cs := cI) (by first | rfl | (go_simp; done) | (go_simp; omega)) rfl rfl c4 hlI.out ?_) | ((with_reducible show wpList _ _ _ (Oper.mk _ (Op.load _ _) _ _ _ _ :: _) _ _); refine wl_ldAw (s := shLab) (cs := cJ) (by first | rfl | (go_simp; done) | (go_simp; omega)) rfl rfl c6 hlJ.out ?_))
  refine (heldLab_ok cI D 1 _ oM10.rep (by omega) (by omega)).mono ?_
  rintro e w11 ⟨rfl, e11⟩
  rw [hmk]
  go_wp2
  go_ret
  exact ⟨rfl, x6.trans (e7.trans (e8.trans (E9.trans (e10.trans e11))))⟩
end Go.Proofs.Ytbdcjhhphkckcaa.lNewLab
