/- RunLayer. -/
import Derived.Test.YtnlhahlegedlaaaFwd10
import Derived.Test.YtnlhahlegedlaaaThings
namespace Go.Proofs.Ytnlhahlegedlaaa.lRunLayer
set_option linter.unusedSimpArgs false
set_option linter.unusedVariables false
open Go.RowKit

def res (d : shLayer.T) (xs : List Nat) : List Nat × Bool := if layD d = true ∧ (xs.length : Int) = d.2.1 then (layF d xs, true) else ([], false)
theorem res_bd (d : shLayer.T) (xs : List Nat) (_ : tot shLayer d ≤ 1048576) (_ : tot (.sl .flt) xs ≤ 1048576) : tot (.sl .flt) (res d xs).1 ≤ 1048576 := by
  rw [tot_flts]
  unfold res
  split
  · rename_i h
    have h1 := layF_len h.1 h.2
    have h2 := layD_int h.1
    show (layF d xs).length ≤ _
    omega
  · simp
set_option maxRecDepth 100000 in
set_option maxHeartbeats 4000000 in
theorem spec_ok (cs0 : List Value) (D0 : shLayer.T) (cs1 : List Value) (D1 : List Nat) (w : World) (h0 : Rep w shLayer cs0 D0) (h1 : Rep w (.sl .flt) cs1 D1) : Calls Try.prog 33 #[ofCs shLayer cs0, ofCs (.sl .flt) cs1] w (OutOk w (.sl .flt) (res D0 D1)) := by
  have hl := hid h0.size
  have ho := hid h0.one
  obtain ⟨p, c, us, rfl, hp, hf, hc, _⟩ := rep_flts.1 h1
  have A := hid (fun w1 (e1 : Ext w w1) (q : Addr) (g : ∀ (j : Nat) (v : Value), cs0[j]? = some v → w1.cell? (q.add j) = some v) => layers_at (h0.ext e1) g)
  have B := hid (fun w1 (e1 : Ext w w1) (q : Addr) (g : ∀ (j : Nat) (v : Value), cs0[j]? = some v → w1.cell? (q.add j) = some v) hv hx => l03Run_lay q cs0 D0 p _ c us D1 w1 (h0.ext e1) g hv rfl hx (hp.ext e1) hf)
  have hcs : cs0[1]? = some (.int .i64 D0.2.1) := by obtain ⟨pw, cw, pb, cb, rfl, _⟩ := lay_vals h0; rfl
  unfold res
  generalize hL : D1.length = n at *
  have HL := hid hL
  simp only [ofCs, Sh.agg, List.headD_cons, Bool.false_eq_true, if_false, if_true]
  have H1 := hid hcs
  clear h0 h1 hcs hL
  by_cases hv : layD D0 = true
  · by_cases hx : (n : Int) = D0.2.1
    · rw [if_pos ⟨hv, hx⟩]
      have B2 := hid (fun w1 e1 q g => B.out w1 e1 q g hv hx)
      rw [hv] at A
      have HX := hid hx
      clear hx B hv
      go_enter Try.func33, Try.ntmps33
      go_wp2_with ((with_reducible show wpList _ _ _ (Oper.mk _ (Op.box _ _) _ _ _ _ :: _) _ _); refine wl_box (s := shLayer) (cs := cs0) rfl rfl rfl hl.out ho.out ?_; intro b v e1 hlo c1)
      refine (A.out _ e1 _ (cs_add c1)).mono ?_
      rintro e w1 ⟨rfl, e2⟩
      have c2 := c1.ext e2
      have g1 := c2.cell 1 _ H1.out
      simp only [adr_row] at g1
      rw [← HX.out] at g1
      go_wp2_with fail
      refine (B2.out _ (e1.trans e2) _ (cs_add c2)).mono ?_
      rintro e w3 ⟨q, cq, vs, rfl, own0, HF, he⟩
      go_wp2
      go_ret2
      exact out_flts (own_base own0 (e1.trans e2).size) HF rfl ((e1.trans e2).trans he)
    · rw [if_neg (fun h => hx h.2)]
      rw [hv] at A
      have hx2 : ((n : Int) != D0.2.1) = true := bne_t hx
      clear B hv hx
      go_enter Try.func33, Try.ntmps33
      go_wp2_with ((with_reducible show wpList _ _ _ (Oper.mk _ (Op.box _ _) _ _ _ _ :: _) _ _); refine wl_box (s := shLayer) (cs := cs0) rfl rfl rfl hl.out ho.out ?_; intro b v e1 hlo c1)
      refine (A.out _ e1 _ (cs_add c1)).mono ?_
      rintro e w1 ⟨rfl, e2⟩
      have c2 := c1.ext e2
      have g1 := c2.cell 1 _ H1.out
      simp only [adr_row] at g1
      go_wp2
      go_ret2
      exact outOk_no rfl (e1.trans e2)
  · rw [if_neg (fun h => hv h.1)]
    have hv : layD D0 = false := by simpa using hv
    rw [hv] at A
    clear B hv
    go_enter Try.func33, Try.ntmps33
    go_wp2_with ((with_reducible show wpList _ _ _ (Oper.mk _ (Op.box _ _) _ _ _ _ :: _) _ _); refine wl_box (s := shLayer) (cs := cs0) rfl rfl rfl hl.out ho.out ?_; intro b v e1 hlo c1)
    refine (A.out _ e1 _ (cs_add c1)).mono ?_
    rintro e w1 ⟨rfl, e2⟩
    go_wp2
    go_ret2
    exact outOk_no rfl (e1.trans e2)
set_option maxRecDepth 100000 in
set_option maxHeartbeats 4000000 in
theorem impl_ok (cs0 : List Value) (D0 : shLayer.T) (cs1 : List Value) (D1 : List Nat) (w : World) (h0 : Rep w shLayer cs0 D0) (h1 : Rep w (.sl .flt) cs1 D1) : Calls Try.prog 36 #[ofCs shLayer cs0, ofCs (.sl .flt) cs1] w (OutOk w (.sl .flt) (res D0 D1)) := by
  have hl := hid h0.size
  have ho := hid h0.one
  obtain ⟨p, c, us, rfl, hp, hf, hc, _⟩ := rep_flts.1 h1
  have A := hid (fun w1 (e1 : Ext w w1) => valid_at (h0.ext e1))
  have B := hid (fun w1 (e1 : Ext w w1) hv hx => run_lay cs0 D0 p _ c us D1 w1 (h0.ext e1) hv rfl hx (hp.ext e1) hf)
  have hcs : cs0[1]? = some (.int .i64 D0.2.1) := by obtain ⟨pw, cw, pb, cb, rfl, _⟩ := lay_vals h0; rfl
  unfold res
  generalize hL : D1.length = n at *
  have HL := hid hL
  simp only [ofCs, Sh.agg, List.headD_cons, Bool.false_eq_true, if_false, if_true]
  have H1 := hid hcs
  clear h0 h1 hcs hL
  by_cases hv : layD D0 = true
  · by_cases hx : (n : Int) = D0.2.1
    · rw [if_pos ⟨hv, hx⟩]
      have B2 := hid (fun w1 e1 => B.out w1 e1 hv hx)
      rw [hv] at A
      have HX := hid hx
      clear hx B hv
      go_enter Try.func36, Try.ntmps36
      go_wp2_with (first | ((with_reducible show wpList _ _ _ (Oper.mk _ (Op.box _ _) _ _ _ _ :: _) _ _); refine wl_box (s := shLayer) (cs := cs0) rfl rfl rfl hl.out ho.out ?_; intro b v e1 hlo c1) | ((with_reducible show wpList _ _ _ (Oper.mk _ (Op.load _ _) _ _ _ _ :: _) _ _); refine wl_ldA (s := shLayer) (cs := cs0) rfl rfl rfl c1 hl.out ?_; simp only [ofCs, Sh.agg, if_true]))
      refine (A.out _ e1).mono ?_
      rintro e w1 ⟨rfl, e2⟩
      have c2 := c1.ext e2
      have g1 := c2.cell 1 _ H1.out
      simp only [adr_row] at g1
      rw [← HX.out] at g1
      go_wp2_with ((with_reducible show wpList _ _ _ (Oper.mk _ (Op.load _ _) _ _ _ _ :: _) _ _); refine wl_ldA (s := shLayer) (cs := cs0) rfl rfl rfl c2 hl.out ?_; simp only [ofCs, Sh.agg, if_true])
      refine (B2.out _ (e1.trans e2)).mono ?_
      rintro e w3 ⟨q, cq, vs, rfl, own0, HF, he⟩
      go_wp2
      go_ret2
      exact out_flts (own_base own0 (e1.trans e2).size) HF rfl ((e1.trans e2).trans he)
    · rw [if_neg (fun h => hx h.2)]
      rw [hv] at A
      have hx2 : ((n : Int) != D0.2.1) = true := bne_t hx
      clear B hv hx
      go_enter Try.func36, Try.ntmps36
      go_wp2_with (first | ((with_reducible show wpList _ _ _ (Oper.mk _ (Op.box _ _) _ _ _ _ :: _) _ _); refine wl_box (s := shLayer) (cs := cs0) rfl rfl rfl hl.out ho.out ?_; intro b v e1 hlo c1) | ((with_reducible show wpList _ _ _ (Oper.mk _ (Op.load _ _) _ _ _ _ :: _) _ _); refine wl_ldA (s := shLayer) (cs := cs0) rfl rfl rfl c1 hl.out ?_; simp only [ofCs, Sh.agg, if_true]))
      refine (A.out _ e1).mono ?_
      rintro e w1 ⟨rfl, e2⟩
      have c2 := c1.ext e2
      have g1 := c2.cell 1 _ H1.out
      simp only [adr_row] at g1
      go_wp2
      go_ret2
      exact outOk_no rfl (e1.trans e2)
  · rw [if_neg (fun h => hv h.1)]
    have hv : layD D0 = false := by simpa using hv
    rw [hv] at A
    clear B hv
    go_enter Try.func36, Try.ntmps36
    go_wp2_with (first | ((with_reducible show wpList _ _ _ (Oper.mk _ (Op.box _ _) _ _ _ _ :: _) _ _); refine wl_box (s := shLayer) (cs := cs0) rfl rfl rfl hl.out ho.out ?_; intro b v e1 hlo c1) | ((with_reducible show wpList _ _ _ (Oper.mk _ (Op.load _ _) _ _ _ _ :: _) _ _); refine wl_ldA (s := shLayer) (cs := cs0) rfl rfl rfl c1 hl.out ?_; simp only [ofCs, Sh.agg, if_true]))
    refine (A.out _ e1).mono ?_
    rintro e w1 ⟨rfl, e2⟩
    go_wp2
    go_ret2
    exact outOk_no rfl (e1.trans e2)
end Go.Proofs.Ytnlhahlegedlaaa.lRunLayer
