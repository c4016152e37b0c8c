/- The law FnExactStopAt answers true at every input. -/
import Derived.Test.YtmcafdcabbighaaStop3
import Derived.Test.YtmcafdcabbighaaHar
namespace Go.Proofs.Ytmcafdcabbighaa.lStop
set_option linter.unusedSimpArgs false
set_option linter.unusedVariables false
open Go.RowKit

def StopOk (w : World) (xs : List Nat) (pt : Int) (e : Ending) (w' : World) : Prop := e = .returned (.tuple #[.int .i64 (stopR xs pt).1, .bool (stopR xs pt).2]) ∧ Ext w w'

set_option maxRecDepth 100000 in
set_option maxHeartbeats 1000000 in
theorem StopAt_any (p : Option Addr) (n c : Nat) (pt : Int) (vs : List Value) (xs : List Nat) (w : World) (hx : xs.length = n) (hnc : n ≤ c) (hcm : c ≤ maxLen) (hc : Cs w p vs) (hv : F32s vs xs) :
    Calls Try.prog 26 #[.slice p n c, .int .i64 pt] w (StopOk w xs pt) := by
  by_cases h : n ≤ 256 ∧ inB pt 1 256 = true
  · obtain ⟨h1, h2⟩ := h
    obtain ⟨a1, a2⟩ := inB_true.1 h2
    obtain ⟨pt, rfl⟩ : ∃ m : Nat, pt = m := ⟨pt.toNat, by omega⟩
    refine (StopAt_yes p n c pt vs xs w hx h1 hnc hcm (by omega) (by omega) hc hv).mono ?_
    rintro e w' ⟨r, hr, rfl, he⟩
    have : stopR xs (pt : Int) = r := by unfold stopR; rw [hx, if_pos ⟨h1, h2⟩, hr]; rfl
    refine ⟨by rw [this], he⟩
  · have hno : stopR xs pt = (0, false) := stopR_no (by rw [hx]; exact h)
    unfold StopOk
    rw [hno]
    unfold maxLen at hcm
    by_cases h1 : n ≤ 256
    · have h2 : inB pt 1 256 = false := by simpa [h1] using h
      go_enter Try.func26, Try.ntmps26
      go_wp2_with fail
      refine (within_any _ _ _ _).mono ?_
      rintro e w1 ⟨rfl, rfl⟩
      rw [h2]
      go_wp2
      go_ret2
      exact ⟨rfl, Ext.alloc w _⟩
    · go_enter Try.func26, Try.ntmps26
      go_wp2
      go_ret2
      exact ⟨rfl, Ext.alloc w _⟩
set_option maxRecDepth 100000 in
set_option maxHeartbeats 1000000 in
theorem specStopAt_any (p : Option Addr) (n c : Nat) (pt : Int) (vs : List Value) (xs : List Nat) (w : World) (hx : xs.length = n) (hnc : n ≤ c) (hcm : c ≤ maxLen) (hc : Cs w p vs) (hv : F32s vs xs) :
    Calls Try.prog 24 #[.slice p n c, .int .i64 pt] w (StopOk w xs pt) := by
  by_cases h : n ≤ 256 ∧ inB pt 1 256 = true
  · obtain ⟨h1, h2⟩ := h
    obtain ⟨a1, a2⟩ := inB_true.1 h2
    obtain ⟨pt, rfl⟩ : ∃ m : Nat, pt = m := ⟨pt.toNat, by omega⟩
    refine (specStopAt_yes p n c pt vs xs w hx h1 (by omega) (by omega) hc hv).mono ?_
    rintro e w' ⟨r, hr, rfl, he⟩
    have : stopR xs (pt : Int) = r := by unfold stopR; rw [hx, if_pos ⟨h1, h2⟩, hr]; rfl
    refine ⟨by rw [this], he⟩
  · have hno : stopR xs pt = (0, false) := stopR_no (by rw [hx]; exact h)
    unfold StopOk
    rw [hno]
    by_cases h1 : n ≤ 256
    · have h2 : inB pt 1 256 = false := by simpa [h1] using h
      have h3 : decide (n ≤ 256) = true := by simpa using h1
      go_enter Try.func24, Try.ntmps24
      go_wp2_with fail
      refine (l01Few_any _ _ _ _ (by omega)).mono ?_
      rintro e w1 ⟨rfl, rfl⟩
      rw [h3]
      go_wp2_with fail
      refine (l00In_any _ _ _ _).mono ?_
      rintro e w1 ⟨rfl, rfl⟩
      rw [h2]
      go_wp2
      go_ret2
      exact ⟨rfl, Ext.refl _⟩
    · have h3 : decide (n ≤ 256) = false := by simpa using h1
      go_enter Try.func24, Try.ntmps24
      go_wp2_with fail
      refine (l01Few_any _ _ _ _ (by omega)).mono ?_
      rintro e w1 ⟨rfl, rfl⟩
      rw [h3]
      go_wp2
      go_ret2
      exact ⟨rfl, Ext.refl _⟩

set_option maxRecDepth 100000 in
set_option maxHeartbeats 1000000 in
theorem law_any (cs : List Value) (xs : List Nat) (pt : Int) (w : World) (h : Rep w (.sl .flt) cs xs) : Calls Try.prog 5 #[ofCs (.sl .flt) cs, .int .i64 pt] w fun e w' => e = .returned (.bool true) ∧ Ext w w' := by
  have hrep := h
  obtain ⟨p, c, rfl, hl⟩ := rep_val h
  simp only [ofCs, Sh.agg, List.headD_cons, Bool.false_eq_true, if_false]
  by_cases hbig : 1048576 < xs.length
  · unfold maxLen at hl
    generalize xs.length = n at *
    go_enter Try.func5, Try.ntmps5
    go_wp2
    go_ret
    exact ⟨rfl, Ext.refl _⟩
  · have hb : tot (.sl .flt) xs ≤ 1048576 := by rw [tot_flts]; omega
    generalize hn : xs.length = n at *
    have Hn := hid hn
    clear hn
    have toc := fun W hW => toFloat32S_ok [.slice p n c] xs W hW hb
    simp only [ofCs, Sh.agg, List.headD_cons, Bool.false_eq_true, if_false] at toc
    go_enter Try.func5, Try.ntmps5
    go_wp2_with fail
    refine (toc w hrep).mono ?_
    rintro e w1 ⟨c1, b1, rfl, o1, n1, l1, e1⟩
    obtain ⟨p1, d1, v1, rfl, q1, q2, q3, q4⟩ := rep_flts.1 o1.rep
    rw [Hn.out] at q3 ⊢
    simp only [ofCs, Sh.agg, List.headD_cons, Bool.false_eq_true, if_false]
    go_wp2_with fail
    refine (specStopAt_any p1 n d1 pt v1 xs _ Hn.out q3 q4 q1 q2).mono ?_
    rintro e w2 ⟨rfl, e2⟩
    generalize hR : stopR xs pt = R at *
    obtain ⟨r, ok⟩ := R
    have HR := hid hR
    clear hR
    go_wp2_with fail
    refine (toc _ ((hrep.ext e1).ext e2)).mono ?_
    rintro e w3 ⟨c3, b3, rfl, o3, n3, l3, e3⟩
    have o3r := o3.rep
    obtain ⟨p3, d3, v3, rfl, q1, q2, q3, q4⟩ := rep_flts.1 o3r
    rw [Hn.out] at q3 o3r ⊢
    simp only [ofCs, Sh.agg, List.headD_cons, Bool.false_eq_true, if_false]
    go_wp2_with fail
    refine (StopAt_any p3 n d3 pt v3 xs _ Hn.out q3 q4 q1 q2).mono ?_
    rintro e w4 ⟨rfl, e4⟩
    rw [HR.out]
    go_wp2_with fail
    refine (toc _ (((hrep.ext e1).ext e2).ext e3 |>.ext e4)).mono ?_
    rintro e w5 ⟨c5, b5, rfl, o5, n5, l5, e5⟩
    have o5r := o5.rep
    obtain ⟨p5, d5, v5, rfl, q1, q2, q3, q4⟩ := rep_flts.1 o5r
    rw [Hn.out] at o5r ⊢
    simp only [ofCs, Sh.agg, List.headD_cons, Bool.false_eq_true, if_false]
    go_wp2_with fail
    refine (eqFloat32S_ok [.slice p3 n d3] [.slice p5 n d5] xs _ ((o3r.ext e4).ext e5) o5r hb).mono ?_
    rintro e w6 ⟨rfl, e6⟩
    go_wp2
    go_ret
    exact ⟨rfl, ((((e1.trans e2).trans e3).trans e4).trans e5).trans e6⟩
end Go.Proofs.Ytmcafdcabbighaa.lStop
