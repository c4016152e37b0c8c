/- RunPlan. -/
import Derived.Test.YtangnigplachdaaPRunS
namespace Go.Proofs.Ytangnigplachdaa.lRunPlan
set_option linter.unusedSimpArgs false
set_option linter.unusedVariables false
open Go.RowKit

def res (d : shPlan.T) (xs : List Nat) : List Nat × Bool := if plaB d.1 = true ∧ tkB d.1 xs.length = true then (curP d.1 xs d.1.length, true) else ([], false)
theorem res_bd (d : shPlan.T) (xs : List Nat) (_ : tot shPlan d ≤ 1048576) (_ : tot (.sl .flt) xs ≤ 1048576) : tot (.sl .flt) (res d xs).1 ≤ 1048576 := by
  rw [tot_flts]
  unfold res
  split
  · rename_i h
    have h1 := curP_le (plaOk h.1) h.2 d.1.length (Nat.le_refl _)
    show (curP d.1 xs d.1.length).length ≤ _
    omega
  · simp
theorem yes {w w0 w' : World} {xs : List Nat} {e : Ending} {u : Value} (hx : Ext w w0) (h : RetFl w0 xs e w') (hu : e = .returned u) : OutOk w (.sl .flt) (xs, true) (.returned (.tuple #[u, .bool true])) w' := by
  obtain ⟨q, c, vs, he, ho, hf, hx2⟩ := h
  rw [he] at hu
  cases hu
  exact out_flts (own_base ho hx.size) hf rfl (hx.trans hx2)
set_option maxRecDepth 100000 in
set_option maxHeartbeats 4000000 in
theorem spec_ok (cs0 : List Value) (D0 : shPlan.T) (cs1 : List Value) (D1 : List Nat) (w : World) (h0 : Rep w shPlan cs0 D0) (h1 : Rep w (.sl .flt) cs1 D1) : Calls Try.prog 43 #[ofCs shPlan cs0, ofCs (.sl .flt) cs1] w (OutOk w (.sl .flt) (res D0 D1)) := by
  obtain ⟨q, cq, us, rfl, _, _, _, _⟩ := rep_flts.1 h1
  obtain ⟨p, c, css, rfl, L⟩ := stps_of h0
  obtain ⟨l, u⟩ := D0
  dsimp only at L ⊢
  simp only [ofCs, Sh.agg, List.headD_cons, Bool.false_eq_true, if_false, if_true]
  have A := hid (fun W (h : Ext w W) (g : Nat) (f0 : W.cell? ⟨g, 0, none⟩ = some (.slice p l.length c)) => l09Is_any (sp := none) g 0 p l.length c l css W f0 L.len L.le (L.cs.ext h) (L.all.imp fun _ _ => Rep.ext h) L.size L.cnt)
  have B := hid (fun W (h : Ext w W) (g : Nat) (f0 : W.cell? ⟨g, 0, none⟩ = some (.slice p l.length c)) => l09Fits_any (sp := none) g 0 p l.length c (D1.length : Int) css l W (L.ext h) f0)
  have C := hid (fun W (h : Ext w W) (g : Nat) (f0 : W.cell? ⟨g, 0, none⟩ = some (.slice p l.length c)) hM hx => l09Run_any (sp := none) g 0 p q l.length c D1.length cq css l D1 W (L.ext h) hM f0 (h1.ext h) hx)
  unfold res
  clear L h0 h1
  cases hB : plaB l
  · rw [if_neg (by simp)]
    rw [hB] at A
    clear C hB
    generalize l.length = n at *
    generalize D1.length = m at *
    go_enter Try.func43, Try.ntmps43
    go_wp2_with fail
    have z := (Ext.refl (w.alloc (.cells #[.slice p n c] 75))).cellOf (b := w.heap.size) (by simp)
    refine (A.out _ (Ext.alloc _ _) _ (by simp)).mono ?_
    rintro e w1 ⟨rfl, e1⟩
    go_wp2
    go_ret2
    exact outOk_no rfl ((Ext.alloc _ _).trans e1)
  · rw [hB] at A
    cases hT : tkB l D1.length
    · rw [if_neg (by simp)]
      rw [hT] at B
      clear C hB hT
      generalize l.length = n at *
      generalize D1.length = m at *
      go_enter Try.func43, Try.ntmps43
      go_wp2_with fail
      refine (A.out _ (Ext.alloc _ _) _ (by simp)).mono ?_
      rintro e w1 ⟨rfl, e1⟩
      have z := e1.cellOf (b := w.heap.size) (by simp)
      go_wp2_with fail
      refine (B.out _ ((Ext.alloc _ _).trans e1) _ (by rw [z.1]; simp)).mono ?_
      rintro e w2 ⟨rfl, e2⟩
      go_wp2
      go_ret2
      exact outOk_no rfl (((Ext.alloc _ _).trans e1).trans e2)
    · rw [if_pos ⟨rfl, rfl⟩]
      rw [hT] at B
      have C2 := hid (fun W h g f => C.out W h g f (plaOk hB) hT)
      clear C hB hT
      generalize curP l D1 l.length = ys at *
      generalize l.length = n at *
      generalize D1.length = m at *
      go_enter Try.func43, Try.ntmps43
      go_wp2_with fail
      refine (A.out _ (Ext.alloc _ _) _ (by simp)).mono ?_
      rintro e w1 ⟨rfl, e1⟩
      have z := e1.cellOf (b := w.heap.size) (by simp)
      go_wp2_with fail
      refine (B.out _ ((Ext.alloc _ _).trans e1) _ (by rw [z.1]; simp)).mono ?_
      rintro e w2 ⟨rfl, e2⟩
      have z2 := (e1.trans e2).cellOf (b := w.heap.size) (by simp)
      have eW := ((Ext.alloc w (.cells #[.slice p n c] 75)).trans e1).trans e2
      go_wp2_with fail
      refine (C2.out _ eW _ (by rw [z2.1]; simp)).mono ?_
      intro e w3 h3
      obtain ⟨u3, rfl, e3, i3⟩ := h3.is
      go_wp2
      go_ret2
      exact yes eW h3 rfl
set_option maxRecDepth 100000 in
set_option maxHeartbeats 4000000 in
theorem impl_ok (cs0 : List Value) (D0 : shPlan.T) (cs1 : List Value) (D1 : List Nat) (w : World) (h0 : Rep w shPlan cs0 D0) (h1 : Rep w (.sl .flt) cs1 D1) : Calls Try.prog 45 #[ofCs shPlan cs0, ofCs (.sl .flt) cs1] w (OutOk w (.sl .flt) (res D0 D1)) := by
  obtain ⟨q, cq, us, rfl, _, _, _, _⟩ := rep_flts.1 h1
  obtain ⟨p, c, css, rfl, L⟩ := stps_of h0
  obtain ⟨l, u⟩ := D0
  dsimp only at L ⊢
  simp only [ofCs, Sh.agg, List.headD_cons, Bool.false_eq_true, if_false, if_true]
  have A := hid (fun W (h : Ext w W) => takes_any p l.length c (D1.length : Int) css l W (L.ext h))
  have C := hid (fun W (h : Ext w W) hM hx => planRun_any p q l.length c D1.length cq css l D1 W (L.ext h) hM (h1.ext h) hx)
  unfold res
  clear L h0 h1
  cases hB : plaB l && tkB l D1.length
  · rw [if_neg (by simpa using hB)]
    rw [hB] at A
    clear C hB
    generalize l.length = n at *
    generalize D1.length = m at *
    go_enter Try.func45, Try.ntmps45
    go_wp2_with fail
    refine (A.out _ (Ext.alloc _ _)).mono ?_
    rintro e w1 ⟨rfl, e1⟩
    go_wp2
    go_ret2
    exact outOk_no rfl ((Ext.alloc _ _).trans e1)
  · rw [hB] at A
    have hB2 := hB
    rw [Bool.and_eq_true] at hB2
    rw [if_pos hB2]
    have C2 := hid (fun W h => C.out W h (plaOk hB2.1) hB2.2)
    clear C hB hB2
    generalize curP l D1 l.length = ys at *
    generalize l.length = n at *
    generalize D1.length = m at *
    go_enter Try.func45, Try.ntmps45
    go_wp2_with fail
    refine (A.out _ (Ext.alloc _ _)).mono ?_
    rintro e w1 ⟨rfl, e1⟩
    have z := e1.cellOf (b := w.heap.size) (by simp)
    have eW := (Ext.alloc w (.cells #[.slice p n c] 75)).trans e1
    go_wp2_with fail
    refine (C2.out _ eW).mono ?_
    intro e w3 h3
    obtain ⟨u3, rfl, e3, i3⟩ := h3.is
    go_wp2
    go_ret2
    exact yes eW h3 rfl
end Go.Proofs.Ytangnigplachdaa.lRunPlan
