/- Layers, models and states that are the same: the program's functions. -/
import Derived.Test.YthphfmngofbabaaSameT
import Derived.Test.YthphfmngofbabaaLay
namespace Go.Proofs.Ythphfmngofbabaa
set_option linter.unusedSimpArgs false
set_option linter.unusedVariables false
open Go.RowKit

/-- A list of numbers behind a slice. -/
def Fl3 (w : World) (p : Option Addr) (xs : List Nat) : Prop := ∃ vs, Cs w p vs ∧ F32s vs xs ∧ xs.length ≤ maxLen ∧ In32 xs
theorem Fl3.ext {w w' : World} {p : Option Addr} {xs : List Nat} (h : Fl3 w p xs) (e : Ext w w') : Fl3 w' p xs := by
  obtain ⟨vs, h1, h2, h3, h4⟩ := h; exact ⟨vs, h1.ext e, h2, h3, h4⟩
theorem fl3_of {w : World} {cs : List Value} {xs : List Nat} (h : Rep w (.sl .flt) cs xs) (hf : Fit (.sl .flt) xs) : ∃ p c, cs = [.slice p xs.length c] ∧ Fl3 w p xs := by
  obtain ⟨p, c, vs, rfl, h1, h2, h3, h4⟩ := rep_flts.1 h
  exact ⟨p, c, rfl, vs, h1, h2, Nat.le_trans h3 h4, hf⟩
theorem lay_cells {w : World} {cs : List Value} {d : shLayer.T} (h : Rep w shLayer cs d) (hf : Fit shLayer d) : ∃ pw cw pb cb, cs = [.int .i64 d.1, .int .i64 d.2.1, .int .i64 d.2.2.1, .slice pw d.2.2.2.1.length cw, .slice pb d.2.2.2.2.1.length cb] ∧ Fl3 w pw d.2.2.2.1 ∧ Fl3 w pb d.2.2.2.2.1 := by
  obtain ⟨a1, a2, a3, a4, a5, au⟩ := d
  obtain ⟨_, _, rfl, rfl, _, _, rfl, rfl, _, _, rfl, rfl, _, _, rfl, h4, _, _, rfl, h5, rfl⟩ := h
  obtain ⟨_, _, _, f4, f5, _⟩ := hf
  obtain ⟨p4, c4, rfl, l4⟩ := fl3_of h4 f4
  obtain ⟨p5, c5, rfl, l5⟩ := fl3_of h5 f5
  exact ⟨p4, c4, p5, c5, rfl, l4, l5⟩
theorem sameLists_fl3 {p q : Option Addr} {n m c d : Nat} {xs ys : List Nat} {w : World} (h1 : Fl3 w p xs) (h2 : Fl3 w q ys) (hn : xs.length = n) (hm : ys.length = m) :
    Calls Try.prog 66 #[.slice p n c, .slice q m d] w (RetB w (eqT (.sl .flt) xs ys)) := by
  obtain ⟨us, a1, a2, a3, a4⟩ := h1
  obtain ⟨vs, b1, b2, b3, b4⟩ := h2
  rw [eqT_flts]
  exact sameLists_any p q n m c d us vs xs ys w hn hm (by omega) a1 b1 a2 b2 a4 b4
set_option maxRecDepth 100000 in
set_option maxHeartbeats 1000000 in
theorem sameLayer_any (d e : shLayer.T) (ci di : List Value) (w : World) (r1 : Rep w shLayer ci d) (r2 : Rep w shLayer di e) (f1 : Fit shLayer d) (f2 : Fit shLayer e) :
    Calls Try.prog 119 #[ofCs shLayer ci, ofCs shLayer di] w (RetB w (eqT shLayer d e)) := by
  obtain ⟨pw, cw, pb, cb, rfl, w1, b1⟩ := lay_cells r1 f1
  obtain ⟨qw, dw, qb, db, rfl, w2, b2⟩ := lay_cells r2 f2
  obtain ⟨x1, x2, x3, x4, x5, xu⟩ := d
  obtain ⟨y1, y2, y3, y4, y5, yu⟩ := e
  clear r1 r2 f1 f2
  dsimp only at *
  have hres : eqT shLayer (x1, x2, x3, x4, x5, xu) (y1, y2, y3, y4, y5, yu) = (decide ((x1 : Int) = y1) && (decide ((x2 : Int) = y2) && (decide ((x3 : Int) = y3) && (eqT (.sl .flt) x4 y4 && (eqT (.sl .flt) x5 y5 && true))))) := rfl
  rw [hres, ofCs_agg rfl, ofCs_agg rfl]
  clear hres
  have C4 := hid (fun W (h : Ext w W) => sameLists_fl3 (n := x4.length) (m := y4.length) (c := cw) (d := dw) (w1.ext h) (w2.ext h) rfl rfl)
  have C5 := hid (fun W (h : Ext w W) => sameLists_fl3 (n := x5.length) (m := y5.length) (c := cb) (d := db) (b1.ext h) (b2.ext h) rfl rfl)
  generalize eqT (.sl .flt) x4 y4 = e4 at *
  generalize eqT (.sl .flt) x5 y5 = e5 at *
  generalize x4.length = l4 at *
  generalize y4.length = k4 at *
  generalize x5.length = l5 at *
  generalize y5.length = k5 at *
  clear w1 w2 b1 b2
  by_cases g1 : (x1 : Int) = y1
  · rw [decide_eq_true g1, Bool.true_and]
    have Q1 := beq_t g1
    clear g1
    by_cases g2 : (x2 : Int) = y2
    · rw [decide_eq_true g2, Bool.true_and]
      have Q2 := beq_t g2
      clear g2
      by_cases g3 : (x3 : Int) = y3
      · rw [decide_eq_true g3, Bool.true_and]
        have Q3 := beq_t g3
        clear g3
        cases e4 with
        | false =>
          go_enter Try.func119, Try.ntmps119
          go_wp2_with fail
          refine (C4.out _ ((Ext.alloc _ _).trans (Ext.alloc _ _))).mono ?_
          rintro e v1 ⟨rfl, e1⟩
          go_wp2
          go_ret
          exact ⟨rfl, (((Ext.alloc _ _).trans (Ext.alloc _ _)).trans e1)⟩
        | true =>
          cases e5 with
          | false =>
            go_enter Try.func119, Try.ntmps119
            go_wp2_with fail
            refine (C4.out _ ((Ext.alloc _ _).trans (Ext.alloc _ _))).mono ?_
            rintro e v1 ⟨rfl, e1⟩
            have f1 := e1.cell (p := ⟨w.heap.size, 4, none⟩) (v := .slice pb l5 cb) (by simp)
            have f2 := e1.cell (p := ⟨w.heap.size + 1, 4, none⟩) (v := .slice qb k5 db) (by simp)
            go_wp2_with fail
            refine (C5.out _ (((Ext.alloc _ _).trans (Ext.alloc _ _)).trans e1)).mono ?_
            rintro e v2 ⟨rfl, e2⟩
            go_wp2
            go_ret
            exact ⟨rfl, ((((Ext.alloc _ _).trans (Ext.alloc _ _)).trans e1).trans e2)⟩
          | true =>
            go_enter Try.func119, Try.ntmps119
            go_wp2_with fail
            refine (C4.out _ ((Ext.alloc _ _).trans (Ext.alloc _ _))).mono ?_
            rintro e v1 ⟨rfl, e1⟩
            have f1 := e1.cell (p := ⟨w.heap.size, 4, none⟩) (v := .slice pb l5 cb) (by simp)
            have f2 := e1.cell (p := ⟨w.heap.size + 1, 4, none⟩) (v := .slice qb k5 db) (by simp)
            go_wp2_with fail
            refine (C5.out _ (((Ext.alloc _ _).trans (Ext.alloc _ _)).trans e1)).mono ?_
            rintro e v2 ⟨rfl, e2⟩
            go_wp2
            go_ret
            exact ⟨rfl, ((((Ext.alloc _ _).trans (Ext.alloc _ _)).trans e1).trans e2)⟩
      · rw [decide_eq_false g3, Bool.false_and]
        have Q3 := beq_f g3
        clear g3
        go_enter Try.func119, Try.ntmps119
        go_wp2
        go_ret
        exact ⟨rfl, ((Ext.alloc _ _).trans (Ext.alloc _ _))⟩
    · rw [decide_eq_false g2, Bool.false_and]
      have Q2 := beq_f g2
      clear g2
      go_enter Try.func119, Try.ntmps119
      go_wp2
      go_ret
      exact ⟨rfl, ((Ext.alloc _ _).trans (Ext.alloc _ _))⟩
  · rw [decide_eq_false g1, Bool.false_and]
    have Q1 := beq_f g1
    clear g1
    go_enter Try.func119, Try.ntmps119
    go_wp2
    go_ret
    exact ⟨rfl, ((Ext.alloc _ _).trans (Ext.alloc _ _))⟩
end Go.Proofs.Ythphfmngofbabaa
