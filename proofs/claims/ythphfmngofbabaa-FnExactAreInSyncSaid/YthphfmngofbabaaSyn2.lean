/- Models that are in sync: the program and the reference. -/
import Derived.Test.YthphfmngofbabaaSyn
import Derived.Test.YthphfmngofbabaaSameV
import Derived.Test.YthphfmngofbabaaHModelS
import Derived.Test.YthphfmngofbabaaThings
namespace Go.Proofs.Ythphfmngofbabaa.lAreInSync
set_option linter.unusedSimpArgs false
set_option linter.unusedVariables false
open Go.RowKit

set_option maxRecDepth 100000 in
set_option maxHeartbeats 4000000 in
theorem indexFuncM_any (fn : Nat) (cap : Array Value) (eg : ∀ args w, (callFunc fn args).run Try.prog w = .ok (.enter fn args) w) (p : Option Addr) (n c : Nat) (css : List (List Value)) (q : Nat → Bool) (w : World) (hv : css.length = n) (hn : n ≤ maxLen) (hc : Cs w p css.flatten) (h6 : ∀ c ∈ css, c.length = shModel.sz)
    (hq : ∀ i ci W, css[i]? = some ci → Ext w W → Calls Try.prog fn (#[ofCs shModel ci] ++ cap) W (RetB W (q i))) :
    Calls Try.prog 136 #[.slice p n c, .func (.func fn) #[] cap] w fun e w' => ∃ z : Int, e = .returned (.int .i64 z) ∧ (0 ≤ z ↔ anyTo q n = true) ∧ Ext w w' := by
  have Hv := hid hv
  have Hq := hid hq
  clear hv hq
  unfold maxLen at hn
  go_enter Try.func136, Try.ntmps136
  go_wp2
  go_loopw [8] (fun iv wr => ∃ i : Nat, i ≤ n ∧ iv = .int .i64 i ∧ Hid (∀ j, j < i → q j = false) ∧ Ext w wr) (fun iv _ => n - (intOf iv).toNat)
  case atStart => exact ⟨0, by omega, rfl, fun j hj => by omega, Ext.refl w⟩
  case round =>
    obtain ⟨i, hi, rfl, Hall, he⟩ := hrel
    by_cases hlt : i < n
    · have hp' := hc.ext he
      have hvi : i < css.length := by rw [Hv.out]; exact hlt
      have hci : css[i]? = some css[i] := by simp
      have hs1 := hc.some_of h6 (by decide) (show 0 < css.length by omega)
      have hcall := Hq.out i css[i] wr hci he
      have Hci := hid hci
      clear hci
      generalize css[i] = ci at *
      cases hqi : q i with
      | true =>
        have Hqi := hid hqi
        clear hqi
        rw [Hqi.out] at hcall
        go_wp2_with (first | (go_at_fn fn; refine hcall.mono ?_; rintro e w1 ⟨rfl, e1⟩) | ((with_reducible show wpList _ _ _ (Oper.mk _ (Op.indexAddr _ _ _) _ _ _ _ :: Oper.mk _ (Op.load _ _) _ _ _ _ :: _) _ _); refine wl_idxloadE (s := shModel) (j := i) rfl rfl rfl rfl (fun _ => rfl) rfl rfl rfl hp' h6 Hv.out hlt hs1 Hci.out ?_))
        go_ret
        refine ⟨i, rfl, ⟨fun _ => anyTo_true.2 ⟨i, hlt, Hqi.out⟩, fun _ => by omega⟩, he.trans e1⟩
      | false =>
        have Hqi := hid hqi
        clear hqi
        rw [Hqi.out] at hcall
        go_wp2_with (first | (go_at_fn fn; refine hcall.mono ?_; rintro e w1 ⟨rfl, e1⟩) | ((with_reducible show wpList _ _ _ (Oper.mk _ (Op.indexAddr _ _ _) _ _ _ _ :: Oper.mk _ (Op.load _ _) _ _ _ _ :: _) _ _); refine wl_idxloadE (s := shModel) (j := i) rfl rfl rfl rfl (fun _ => rfl) rfl rfl rfl hp' h6 Hv.out hlt hs1 Hci.out ?_))
        go_roundw
        case rel =>
          refine ⟨i + 1, by omega, by go_num, fun j hj => ?_, he.trans e1⟩
          by_cases hji : j = i
          · subst hji; exact Hqi.out
          · exact Hall j (by omega)
        case measure => simp [intOf]; omega
    · obtain rfl : i = n := by omega
      go_wp2
      go_ret
      exact ⟨-1, rfl, by rw [anyTo_false Hall.out]; simp, he⟩
set_option maxRecDepth 100000 in
set_option maxHeartbeats 1000000 in
theorem containsFuncM_any (fn : Nat) (cap : Array Value) (eg : ∀ args w, (callFunc fn args).run Try.prog w = .ok (.enter fn args) w) (p : Option Addr) (n c : Nat) (css : List (List Value)) (q : Nat → Bool) (w : World) (hv : css.length = n) (hn : n ≤ maxLen) (hc : Cs w p css.flatten) (h6 : ∀ c ∈ css, c.length = shModel.sz)
    (hq : ∀ i ci W, css[i]? = some ci → Ext w W → Calls Try.prog fn (#[ofCs shModel ci] ++ cap) W (RetB W (q i))) :
    Calls Try.prog 89 #[.slice p n c, .func (.func fn) #[] cap] w (RetB w (anyTo q n)) := by
  have hcall := indexFuncM_any fn cap eg p n c css q w hv hn hc h6 hq
  generalize anyTo q n = b at *
  clear hv hc hq eg
  go_enter Try.func89, Try.ntmps89
  go_wp2_with fail
  refine hcall.mono ?_
  rintro e w1 ⟨z, rfl, hz, he⟩
  have Hz := hid hz
  clear hz
  go_wp2
  go_ret
  refine ⟨ret_bool ?_, he⟩
  have := Hz.out
  cases b <;> simp at this <;> simp <;> omega

/-- One model of a list. -/
theorem mod_at {w : World} {css : List (List Value)} {D : List shModel.T} (h : All2 (Rep w shModel) css D) (hf : ∀ x ∈ D, Fit shModel x) {i : Nat} (hi : i < D.length) : ∃ p c cs, css[i]? = some [.slice p (D[i].1 : List shLayer.T).length c] ∧ Rep w (.sl shLayer) [.slice p (D[i].1 : List shLayer.T).length c] D[i].1 ∧ Fit (.sl shLayer) D[i].1 ∧ Lays w p (D[i].1 : List shLayer.T).length cs D[i].1 := by
  obtain ⟨ci, hci, ri⟩ := h.get i D[i] (by simp)
  have hd := hf D[i] (List.getElem_mem hi)
  generalize D[i] = d at *
  obtain ⟨l, u⟩ := d
  obtain ⟨_, _, rfl, hr, rfl⟩ := ri
  obtain ⟨p, c, rfl, _⟩ := rep_val hr
  obtain ⟨p', c', cs, he, L⟩ := lays_of hr hd.1
  cases he
  exact ⟨p, c, cs, hci, hr, hd.1, L⟩
set_option maxRecDepth 100000 in
set_option maxHeartbeats 4000000 in
theorem inSync_any (bx : Nat) (p : Option Addr) (n c : Nat) (css : List (List Value)) (pi p0 : Option Addr) (ni ci n0 c0 : Nat) (csi : List (List Value)) (li l0 : List shLayer.T) (w : World) (hc : Cs w p css.flatten) (h6 : ∀ c ∈ css, c.length = shModel.sz) (h7 : css.length = n) (hn : 0 < n) (h0 : css[0]? = some [.slice p0 n0 c0])
    (gx : w.cell? ⟨bx, 0, none⟩ = some (.slice p n c)) (Li : Lays w pi ni csi li) (ri : Rep w (.sl shLayer) [.slice pi ni ci] li) (r0 : Rep w (.sl shLayer) [.slice p0 n0 c0] l0) (fi : Fit (.sl shLayer) li) (f0 : Fit (.sl shLayer) l0) :
    Calls Try.prog 90 #[.agg #[.slice pi ni ci], .pointer (some ⟨bx, 0, none⟩)] w (RetB w (!modB li || !eqT (.sl shLayer) li l0)) := by
  have hs1 := hc.some_of h6 (by decide) (show 0 < css.length by omega)
  have CV := hid (fun W (h : Ext w W) => calls_retB (ValidModel_any pi ni ci li csi W Li.len Li.le (Li.cs.ext h) (Li.ext h).all Li.size Li.cnt))
  have CS := hid (fun W (h : Ext w W) => calls_retB (sameModel_any (.slice pi ni ci) (.slice p0 n0 c0) li l0 W (ri.ext h) (r0.ext h) fi f0))
  generalize hV : modB li = V at *
  generalize hE : eqT (.sl shLayer) li l0 = E at *
  clear hV hE Li ri r0 fi f0
  obtain ⟨F, hF⟩ : ∃ F : Option Tmp → World → Value → Prop, F = fun d _ u => (match d with | some 5 => u = .bool V | _ => u = .bool E) := ⟨_, rfl⟩
  have HF := hid hF
  clear hF
  have E1 := (Ext.alloc w (.cells #[.slice pi ni ci] 33)).trans (Ext.drew _)
  have gd := E1.cell gx
  have hcd := hc.ext E1
  cases V <;> cases E
  all_goals
    go_enter Try.func90, Try.ntmps90
    go_wp2
    refine wp_region_xall (F := F) (by kernel_rfl) (by kernel_rfl) (by kernel_rfl) ?_
    intro wf hwf
    repeat (first
      | (refine x_skip rfl ?_; simp only [Act.put, ev_tmp, List.setIfInBounds_toArray, List.set_cons_succ, List.set_cons_zero, List.getD_cons_succ, List.getD_cons_zero])
      | (refine x_mv rfl rfl rfl ?_; simp only [Act.put, ev_tmp, List.setIfInBounds_toArray, List.set_cons_succ, List.set_cons_zero, List.getD_cons_succ, List.getD_cons_zero])
      | (refine x_as rfl rfl rfl ?_; simp only [Act.put, ev_tmp, List.setIfInBounds_toArray, List.set_cons_succ, List.set_cons_zero, List.getD_cons_succ, List.getD_cons_zero])
      | ((with_reducible show wpX _ _ _ _ _ _ (Oper.mk _ (Op.indexAddr _ _ _) _ _ _ _ :: Oper.mk _ (Op.load _ _) _ _ _ _ :: _) _); refine x_idxloadE (s := shModel) (j := 0) rfl rfl (fun _ => rfl) rfl (fun _ => rfl) rfl rfl rfl hcd h6 h7 hn hs1 h0 ?_; rw [ofCs_agg (s := shModel) rfl]; simp only [Act.put, ev_tmp, List.setIfInBounds_toArray, List.set_cons_succ, List.set_cons_zero, List.getD_cons_succ, List.getD_cons_zero])
      | ((with_reducible show wpX _ _ _ _ _ _ (Oper.mk _ (Op.call _) _ _ _ _ :: _) _); refine x_callf (f := 75) (args := #[.agg #[.slice pi ni ci]]) rfl rfl Try.func75 rfl (by kernel_rfl) ?_ ?_ ?_; (focus (simp [Act.eval]; done)); (focus (intro w1 hw1; exact (by rw [HF.out]; exact CV.out w1 (E1.trans hw1)))); rintro u w3 e3 e4 hu; simp only [HF.out] at hu; subst hu; simp only [Act.put, ev_tmp, List.setIfInBounds_toArray, List.set_cons_succ, List.set_cons_zero, List.getD_cons_succ, List.getD_cons_zero])
      | ((with_reducible show wpX _ _ _ _ _ _ (Oper.mk _ (Op.call _) _ _ _ _ :: _) _); refine x_callf (f := 64) (args := #[.agg #[.slice pi ni ci], .agg #[.slice p0 n0 c0]]) rfl rfl Try.func64 rfl (by kernel_rfl) ?_ ?_ ?_; (focus (simp [Act.eval]; done)); (focus (intro w1 hw1; exact (by rw [HF.out]; exact CS.out w1 (E1.trans hw1)))); rintro u w3 e3 e4 hu; simp only [HF.out] at hu; subst hu; simp only [Act.put, ev_tmp, List.setIfInBounds_toArray, List.set_cons_succ, List.set_cons_zero, List.getD_cons_succ, List.getD_cons_zero])
      | (refine x_run rfl fun K hK w1 hw1 => ?_; have k0 := hw1.cellOf (b := w.heap.size) (by simp); have k1 := hw1.cell (gd); go_simp; refine hK _ ?_; clear hK K k0 k1 hw1 w1))
    refine x_nil ?_
    go_wp2
    go_ret
    exact ⟨rfl, E1.trans hwf⟩
end Go.Proofs.Ythphfmngofbabaa.lAreInSync
