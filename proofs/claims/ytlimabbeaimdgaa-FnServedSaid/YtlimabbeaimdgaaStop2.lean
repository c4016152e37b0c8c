/- StopAt: the program's. -/
import Derived.Test.YtlimabbeaimdgaaStop
namespace Go.Proofs.Ytlimabbeaimdgaa
set_option linter.unusedSimpArgs false
set_option linter.unusedVariables false
open Go.RowKit

theorem subp_ne {p : Option Addr} {l c : Nat} (h : c ≠ l) : subp p 1 l c = p.map (fun x => x.add l) := by unfold subp; rw [if_neg h, Nat.mul_one]

set_option maxRecDepth 100000 in
set_option maxHeartbeats 1000000 in
theorem StopAt_yes (p : Option Addr) (n c pt : Nat) (vs : List Value) (xs : List Nat) (w : World) (hx : xs.length = n) (hn : n ≤ 256) (hnc : n ≤ c) (hcm : c ≤ maxLen) (hp1 : 1 ≤ pt) (hp2 : pt ≤ 256) (hc : Cs w p vs) (hv : F32s vs xs) :
    Calls Try.prog 26 #[.slice p n c, .int .i64 pt] w fun e w' => ∃ r : Int × Bool, r = stopGo xs pt (n - pt) pt ∧ e = .returned (.tuple #[.int .i64 r.1, .bool r.2]) ∧ Ext w w' := by
  have Hx := hid hx
  have Hv := hid hv
  have hlv := hid (hv.1.trans hx)
  clear hv hx
  have c1 : inB (pt : Int) 1 256 = true := inB_true.2 (by omega)
  have e0 := Ext.alloc w (.cells #[.slice p n c] 43)
  have hbox := cell_made w (.slice p n c) 43
  go_enter Try.func26, Try.ntmps26
  go_wp2_with fail
  refine (within_any _ _ _ _).mono ?_
  rintro e w1 ⟨rfl, rfl⟩
  go_wp2
  go_loopw [6] (fun iv wr => ∃ i : Nat, pt ≤ i ∧ iv = .int .i64 i ∧ Hid (stopGo xs pt (n - pt) pt = stopGo xs pt (n - i) i) ∧ Ext (w.alloc (.cells #[.slice p n c] 43)) wr) (fun iv _ => n - (intOf iv).toNat)
  case atStart => exact ⟨pt, by omega, rfl, rfl, Ext.refl _⟩
  case round =>
    obtain ⟨i, hi, rfl, Hst, he⟩ := hrel
    have hcell := he.cell hbox
    have hlb : w.heap.size < wr.heap.size := by have := he.size; simp at this; omega
    by_cases hlt : i < n
    · have hci := hc.ext (e0.trans he)
      have hpp : (i : Int) - (pt : Int) + 1 = ((i + 1 - pt : Nat) : Int) := by omega
      go_wp2_with fail
      have e1 := Ext.alloc wr (.cells #[.int .i64 ((i + 1 - pt : Nat) : Int)] 3)
      have hsub := (hci.ext e1).sub (s := 1) (l := i + 1 - pt) (hi := i + 1) (c := c) (by omega) (by omega)
      rw [subp_ne (by omega), Nat.mul_one, Nat.mul_one] at hsub
      have hfr : fresh xs pt i = anyTo (fun m => allLess xs (i + 1 - pt) (xs.getD (i + 1 - pt + m) 0)) (i + 1 - (i + 1 - pt)) := by unfold fresh; congr 1; omega
      refine (containsFuncF32_any _ _ (by intro args w; kernel_rfl) _ _ _ _ (fun m => allLess xs (i + 1 - pt) (xs.getD (i + 1 - pt + m) 0)) _ (by rw [List.length_drop, List.length_take, hlv.out]; omega) (by unfold maxLen; omega) hsub (fun m u W hu hW => ?_)).mono ?_
      · have hm : m < pt := by have := (List.getElem?_eq_some_iff.1 hu).1; simp at this; omega
        obtain ⟨b, hb, hcb⟩ := Hv.out.get (i := i + 1 - pt + m) (by rw [Hx.out]; omega)
        rw [List.getElem?_drop, List.getElem?_take, if_pos (by omega), hb] at hu
        cases hu
        have hst := stop1_any b ⟨w.heap.size, 0, none⟩ ⟨wr.heap.size, 0, none⟩ p n c (i + 1 - pt) vs xs W (hW.cell (e1.cell hcell)) (hW.cell (cell_made wr _ _)) Hx.out hn hnc (by omega) ((hci.ext e1).ext hW) Hv.out
        rw [hcb] at hst
        exact hst
      rintro e w2 ⟨rfl, e2⟩
      rw [← hfr]
      have hn1 : n - i = (n - (i + 1)) + 1 := by omega
      have hstep : stopGo xs pt (n - i) i = if fresh xs pt i = true then stopGo xs pt (n - (i + 1)) (i + 1) else ((i : Int), true) := by rw [hn1]; rfl
      cases hf : fresh xs pt i with
      | true =>
        have Hf := hid hf
        clear hf hfr
        go_wp2
        go_roundw
        case rel => exact ⟨i + 1, by omega, by go_num, by rw [Hid, Hst.out, hstep, Hf.out]; rfl, (he.trans e1).trans e2⟩
        case measure => simp [intOf]; omega
      | false =>
        have Hf := hid hf
        clear hf hfr
        go_wp2
        go_ret2
        exact ⟨((i : Int), true), by rw [Hst.out, hstep, Hf.out]; rfl, rfl, ((e0.trans he).trans e1).trans e2⟩
    · go_wp2
      go_ret2
      refine ⟨(0, false), ?_, rfl, e0.trans he⟩
      rw [Hst.out, show n - i = 0 by omega]; rfl
end Go.Proofs.Ytlimabbeaimdgaa
