/- A part of the proofs: Fcell, HLayer, HLayerS, HModel. -/
import Derived.Test.YtlimabbeaimdgaaGreatZ03Evalua
import Derived.Test.YtlimabbeaimdgaaGreatZ02Evalua
set_option linter.unusedSimpArgs false
set_option linter.unusedVariables false
namespace Go.Proofs.YtlimabbeaimdgaaGreat
open Go.RowKit
theorem fcell {w w1 : World} {p : Option Addr} {css : List (List Value)} {s n i : Nat} {cs : List Value} {v : Value} (hp : Cs w p css.flatten) (h6 : ∀ c ∈ css, c.length = s) (h7 : css.length = n) (hi : i < n) (hc : css[i]? = some cs) (j : Nat) (hx : Ext w w1) (hv : cs[j]? = some v) :
 w1.cell? ((adr p (i * s)).add j) = some v := by
 obtain ⟨_, rfl⟩ := List.getElem?_eq_some_iff.1 hc
 have hj : j < s := by have := (List.getElem?_eq_some_iff.1 hv).1; rwa [h6 _ (List.getElem_mem _)] at this
 have h1 := (hp.ext hx).cell (i * s + j) v (by rw [flat_get h6 (by omega) hj]; exact hv)
 unfold adr at h1 ⊢
 rw [Go.Proofs.YtlimabbeaimdgaaGreat.add_add]; exact h1
abbrev shLayer : Sh := .pr .int (.pr .int (.pr .int (.pr (.sl .flt) (.pr (.sl .flt) (.un)))))
theorem fo_implLayer_1 (q : Addr) (w : World) : (Instr.fieldAt 100 (.pointer (some q)) 1).run Tryz.prog w = .ok (.pointer (some (q.add 1))) w := by go_simp
theorem fo_implLayer_2 (q : Addr) (w : World) : (Instr.fieldAt 100 (.pointer (some q)) 2).run Tryz.prog w = .ok (.pointer (some (q.add 2))) w := by go_simp
set_option maxRecDepth 100000 in
set_option maxHeartbeats 1000000 in
theorem eqLayer_ok : EqOk 68 shLayer := by
 intro cs cs' d w hu hv hn
 obtain ⟨a1, a2, a3, a4, a5, au⟩ := d
 obtain ⟨_, _, rfl, rfl, _, _, rfl, rfl, _, _, rfl, rfl, _, _, rfl, ha4, _, _, rfl, ha5, rfl⟩ := hu
 obtain ⟨pa4, ca4, rfl, hla4⟩ := rep_val ha4
 obtain ⟨pa5, ca5, rfl, hla5⟩ := rep_val ha5
 obtain ⟨_, _, rfl, rfl, _, _, rfl, rfl, _, _, rfl, rfl, _, _, rfl, hqa4, _, _, rfl, hqa5, rfl⟩ := hv
 obtain ⟨pqa4, cqa4, rfl, hlqa4⟩ := rep_val hqa4
 obtain ⟨pqa5, cqa5, rfl, hlqa5⟩ := rep_val hqa5
 have hba4 : tot (.sl .flt) a4 ≤ 1048576 := by simp only [tot] at hn ⊢; omega
 have hba5 : tot (.sl .flt) a5 ≤ 1048576 := by simp only [tot] at hn ⊢; omega
 simp only [ofCs, Sh.agg, List.cons_append, List.nil_append, if_true]
 go_enter Tryz.func68, Tryz.ntmps68
 go_wp2_with fail
 refine (eqFloat32S_ok [.slice pa4 (List.length a4) ca4] [.slice pqa4 (List.length a4) cqa4] a4 _ (Rep.ext (w := w) ?_ (ha4 : Rep w (.sl .flt) [.slice pa4 (List.length a4) ca4] a4)) (Rep.ext (w := w) ?_ (hqa4 : Rep w (.sl .flt) [.slice pqa4 (List.length a4) cqa4] a4)) hba4).mono ?_
 · (repeat (first | with_reducible exact Ext.refl _ | with_reducible assumption | ((with_reducible refine Ext.setCell ?_ ?_ _); rotate_left; focus (first | (simp; done) | (simp; omega))) | (with_reducible refine Ext.trans ?_ (Ext.alloc _ _)) | (with_reducible refine Ext.trans ?_ (Ext.drew _)) | (with_reducible refine Ext.trans ?_ (by with_reducible assumption))))
 · (repeat (first | with_reducible exact Ext.refl _ | with_reducible assumption | ((with_reducible refine Ext.setCell ?_ ?_ _); rotate_left; focus (first | (simp; done) | (simp; omega))) | (with_reducible refine Ext.trans ?_ (Ext.alloc _ _)) | (with_reducible refine Ext.trans ?_ (Ext.drew _)) | (with_reducible refine Ext.trans ?_ (by with_reducible assumption))))
 rintro e w1 ⟨rfl, e1⟩
 have x1_0 := e1.cellOf (b := w.heap.size) (by first | (simp; done) | (simp; omega))
 have x1_1 := e1.cellOf (b := w.heap.size + 1) (by first | (simp; done) | (simp; omega))
 have y1 := e1.size
 go_wp2_with fail
 refine (eqFloat32S_ok [.slice pa5 (List.length a5) ca5] [.slice pqa5 (List.length a5) cqa5] a5 _ (Rep.ext (w := w) ?_ (ha5 : Rep w (.sl .flt) [.slice pa5 (List.length a5) ca5] a5)) (Rep.ext (w := w) ?_ (hqa5 : Rep w (.sl .flt) [.slice pqa5 (List.length a5) cqa5] a5)) hba5).mono ?_
 · (repeat (first | with_reducible exact Ext.refl _ | with_reducible assumption | ((with_reducible refine Ext.setCell ?_ ?_ _); rotate_left; focus (first | (simp; done) | (simp; omega))) | (with_reducible refine Ext.trans ?_ (Ext.alloc _ _)) | (with_reducible refine Ext.trans ?_ (Ext.drew _)) | (with_reducible refine Ext.trans ?_ (by with_reducible assumption))))
 · (repeat (first | with_reducible exact Ext.refl _ | with_reducible assumption | ((with_reducible refine Ext.setCell ?_ ?_ _); rotate_left; focus (first | (simp; done) | (simp; omega))) | (with_reducible refine Ext.trans ?_ (Ext.alloc _ _)) | (with_reducible refine Ext.trans ?_ (Ext.drew _)) | (with_reducible refine Ext.trans ?_ (by with_reducible assumption))))
 rintro e w2 ⟨rfl, e2⟩
 have x2_0 := e2.cellOf (b := w.heap.size) (by first | (simp; done) | (simp; omega) | (simp at y1 ⊢; omega) | (simp at y1; omega) | (simp at y1 ⊢; omega) | (simp at y1; omega))
 have x2_1 := e2.cellOf (b := w.heap.size + 1) (by first | (simp; done) | (simp; omega) | (simp at y1 ⊢; omega) | (simp at y1; omega) | (simp at y1 ⊢; omega) | (simp at y1; omega))
 have y2 := e2.size
 go_wp2
 go_ret
 refine ⟨rfl, ?_⟩
 (repeat (first | with_reducible exact Ext.refl _ | with_reducible assumption | ((with_reducible refine Ext.setCell ?_ ?_ _); rotate_left; focus (first | (simp; done) | (simp; omega))) | (with_reducible refine Ext.trans ?_ (Ext.alloc _ _)) | (with_reducible refine Ext.trans ?_ (Ext.drew _)) | (with_reducible refine Ext.trans ?_ (by with_reducible assumption))))
set_option maxRecDepth 100000 in
set_option maxHeartbeats 1000000 in
theorem szLayer_ok : SzOk 48 shLayer := by
 intro cs d left w hu hl0 hl1
 obtain ⟨a1, a2, a3, a4, a5, au⟩ := d
 obtain ⟨_, _, rfl, rfl, _, _, rfl, rfl, _, _, rfl, rfl, _, _, rfl, ha4, _, _, rfl, ha5, rfl⟩ := hu
 obtain ⟨pa4, ca4, rfl, hla4⟩ := rep_val ha4
 obtain ⟨pa5, ca5, rfl, hla5⟩ := rep_val ha5
 simp only [ofCs, Sh.agg, List.cons_append, List.nil_append, if_true]
 generalize hT : tot shLayer (a1, a2, a3, a4, a5, au) = T
 have HT := hid hT
 clear hT
 go_enter Tryz.func48, Tryz.ntmps48
 go_wp2_with fail
 refine (szFloat32S_ok [.slice pa4 (List.length a4) ca4] a4 left _ (Rep.ext (w := w) ?_ (ha4 : Rep w (.sl .flt) [.slice pa4 (List.length a4) ca4] a4)) (by omega) (by omega)).mono ?_
 · (repeat (first | with_reducible exact Ext.refl _ | with_reducible assumption | ((with_reducible refine Ext.setCell ?_ ?_ _); rotate_left; focus (first | (simp; done) | (simp; omega))) | (with_reducible refine Ext.trans ?_ (Ext.alloc _ _)) | (with_reducible refine Ext.trans ?_ (Ext.drew _)) | (with_reducible refine Ext.trans ?_ (by with_reducible assumption))))
 rintro e w1 ⟨⟨r1, rfl, hr1⟩, e1⟩
 have x1_0 := e1.cellOf (b := w.heap.size) (by first | (simp; done) | (simp; omega))
 have y1 := e1.size
 by_cases hn1 : r1 < 0
 · go_wp2
   go_ret
   refine ⟨⟨-1, rfl, .inl (by omega)⟩, ?_⟩
   (repeat (first | with_reducible exact Ext.refl _ | with_reducible assumption | ((with_reducible refine Ext.setCell ?_ ?_ _); rotate_left; focus (first | (simp; done) | (simp; omega))) | (with_reducible refine Ext.trans ?_ (Ext.alloc _ _)) | (with_reducible refine Ext.trans ?_ (Ext.drew _)) | (with_reducible refine Ext.trans ?_ (by with_reducible assumption))))
 have hq1 : r1 = left - (tot (.sl .flt) a4 : Int) := by rcases hr1 with h | h; exact absurd h hn1; exact h.1
 have Hq1 := hid hq1
 have hz1 : 0 ≤ r1 := by omega
 have ht1 : r1 ≤ 1048576 := by omega
 clear hr1 hq1
 go_wp2_with fail
 refine (szFloat32S_ok [.slice pa5 (List.length a5) ca5] a5 r1 _ (Rep.ext (w := w) ?_ (ha5 : Rep w (.sl .flt) [.slice pa5 (List.length a5) ca5] a5)) (by omega) (by omega)).mono ?_
 · (repeat (first | with_reducible exact Ext.refl _ | with_reducible assumption | ((with_reducible refine Ext.setCell ?_ ?_ _); rotate_left; focus (first | (simp; done) | (simp; omega))) | (with_reducible refine Ext.trans ?_ (Ext.alloc _ _)) | (with_reducible refine Ext.trans ?_ (Ext.drew _)) | (with_reducible refine Ext.trans ?_ (by with_reducible assumption))))
 rintro e w2 ⟨⟨r2, rfl, hr2⟩, e2⟩
 have x2_0 := e2.cellOf (b := w.heap.size) (by first | (simp; done) | (simp; omega) | (simp at y1 ⊢; omega) | (simp at y1; omega) | (simp at y1 ⊢; omega) | (simp at y1; omega))
 have y2 := e2.size
 by_cases hn2 : r2 < 0
 · go_wp2
   go_ret
   refine ⟨⟨-1, rfl, .inl (by omega)⟩, ?_⟩
   (repeat (first | with_reducible exact Ext.refl _ | with_reducible assumption | ((with_reducible refine Ext.setCell ?_ ?_ _); rotate_left; focus (first | (simp; done) | (simp; omega))) | (with_reducible refine Ext.trans ?_ (Ext.alloc _ _)) | (with_reducible refine Ext.trans ?_ (Ext.drew _)) | (with_reducible refine Ext.trans ?_ (by with_reducible assumption))))
 have hq2 : r2 = r1 - (tot (.sl .flt) a5 : Int) := by rcases hr2 with h | h; exact absurd h hn2; exact h.1
 have Hq2 := hid hq2
 have hz2 : 0 ≤ r2 := by omega
 have ht2 : r2 ≤ 1048576 := by omega
 clear hr2 hq2
 go_wp2
 go_ret
 refine ⟨⟨_, rfl, .inr ⟨?_, by omega⟩⟩, ?_⟩
 · have h0 := HT.out
   simp only [tot] at h0
   have h1 := Hq1.out
   simp only [tot] at h1
   have h2 := Hq2.out
   simp only [tot] at h2
   omega
 · (repeat (first | with_reducible exact Ext.refl _ | with_reducible assumption | ((with_reducible refine Ext.setCell ?_ ?_ _); rotate_left; focus (first | (simp; done) | (simp; omega))) | (with_reducible refine Ext.trans ?_ (Ext.alloc _ _)) | (with_reducible refine Ext.trans ?_ (Ext.drew _)) | (with_reducible refine Ext.trans ?_ (by with_reducible assumption))))
set_option maxRecDepth 100000 in
set_option maxHeartbeats 1000000 in
theorem toLayer_ok : ToOk 55 shLayer := by
 intro cs d w hu hn
 obtain ⟨a1, a2, a3, a4, a5, au⟩ := d
 obtain ⟨_, _, rfl, rfl, _, _, rfl, rfl, _, _, rfl, rfl, _, _, rfl, ha4, _, _, rfl, ha5, rfl⟩ := hu
 obtain ⟨pa4, ca4, rfl, hla4⟩ := rep_val ha4
 obtain ⟨pa5, ca5, rfl, hla5⟩ := rep_val ha5
 have hba4 : tot (.sl .flt) a4 ≤ 1048576 := by simp only [tot] at hn ⊢; omega
 have hba5 : tot (.sl .flt) a5 ≤ 1048576 := by simp only [tot] at hn ⊢; omega
 simp only [ofCs, Sh.agg, List.cons_append, List.nil_append, if_true]
 go_enter Tryz.func55, Tryz.ntmps55
 go_wp2_with fail
 refine (toFloat32S_ok [.slice pa4 (List.length a4) ca4] a4 _ (Rep.ext (w := w) ?_ (ha4 : Rep w (.sl .flt) [.slice pa4 (List.length a4) ca4] a4)) hba4).mono ?_
 · (repeat (first | with_reducible exact Ext.refl _ | with_reducible assumption | ((with_reducible refine Ext.setCell ?_ ?_ _); rotate_left; focus (first | (simp; done) | (simp; omega))) | (with_reducible refine Ext.trans ?_ (Ext.alloc _ _)) | (with_reducible refine Ext.trans ?_ (Ext.drew _)) | (with_reducible refine Ext.trans ?_ (by with_reducible assumption))))
 rintro e w1 ⟨cs1, bs1, rfl, owna4, nd1, lo1, e1⟩
 obtain ⟨pqa4, cqa4, rfl, glqa4⟩ := rep_val owna4.rep
 have hqa4 := owna4.rep
 simp only [ofCs, Sh.agg, List.headD_cons, Bool.false_eq_true, if_false]
 have x1_0 := e1.cellOf (b := w.heap.size) (by first | (simp; done) | (simp; omega))
 have x1_1 := e1.cellOf (b := w.heap.size + 1) (by first | (simp; done) | (simp; omega))
 have x1_2 := e1.cellOf (b := w.heap.size + 2) (by first | (simp; done) | (simp; omega))
 have y1 := e1.size
 go_wp2_with fail
 refine (toFloat32S_ok [.slice pa5 (List.length a5) ca5] a5 _ (Rep.ext (w := w) ?_ (ha5 : Rep w (.sl .flt) [.slice pa5 (List.length a5) ca5] a5)) hba5).mono ?_
 · (repeat (first | with_reducible exact Ext.refl _ | with_reducible assumption | ((with_reducible refine Ext.setCell ?_ ?_ _); rotate_left; focus (first | (simp; done) | (simp; omega))) | (with_reducible refine Ext.trans ?_ (Ext.alloc _ _)) | (with_reducible refine Ext.trans ?_ (Ext.drew _)) | (with_reducible refine Ext.trans ?_ (by with_reducible assumption))))
 rintro e w2 ⟨cs2, bs2, rfl, owna5, nd2, lo2, e2⟩
 obtain ⟨pqa5, cqa5, rfl, glqa5⟩ := rep_val owna5.rep
 have hqa5 := owna5.rep
 simp only [ofCs, Sh.agg, List.headD_cons, Bool.false_eq_true, if_false]
 have x2_0 := e2.cellOf (b := w.heap.size) (by first | (simp; done) | (simp; omega) | (simp at y1 ⊢; omega) | (simp at y1; omega) | (simp at y1 ⊢; omega) | (simp at y1; omega))
 have x2_1 := e2.cellOf (b := w.heap.size + 1) (by first | (simp; done) | (simp; omega) | (simp at y1 ⊢; omega) | (simp at y1; omega) | (simp at y1 ⊢; omega) | (simp at y1; omega))
 have x2_2 := e2.cellOf (b := w.heap.size + 2) (by first | (simp; done) | (simp; omega) | (simp at y1 ⊢; omega) | (simp at y1; omega) | (simp at y1 ⊢; omega) | (simp at y1; omega))
 have y2 := e2.size
 go_wp2
 refine bodyPost_ret (v := .agg #[.int .i64 a1, .int .i64 a2, .int .i64 a3, .slice pqa4 (List.length a4) cqa4, .slice pqa5 (List.length a5) cqa5]) (by simp [results, Tryz.results55, go_sem, x1_0, x1_1, x1_2, x2_0, x2_1, x2_2, y1, y2]) rfl ?_
 generalize hW : World.setCell _ _ _ = W
 have eW : Ext w W := by subst hW; (repeat (first | with_reducible exact Ext.refl _ | with_reducible assumption | ((with_reducible refine Ext.setCell ?_ ?_ _); rotate_left; focus (first | (simp; done) | (simp; omega))) | (with_reducible refine Ext.trans ?_ (Ext.alloc _ _)) | (with_reducible refine Ext.trans ?_ (Ext.drew _)) | (with_reducible refine Ext.trans ?_ (by with_reducible assumption))))
 have ch1 : Chg (fun b => b < w.heap.size + 3) w1 W := by subst hW; (repeat (first | with_reducible exact Chg.refl _ _ | (with_reducible exact Chg.of_ext (by with_reducible assumption)) | with_reducible assumption | ((with_reducible refine Chg.setCell ?_ ?_ _); rotate_left; focus (first | (simp; done) | (simp; omega))) | (with_reducible refine Chg.alloc ?_ _) | (with_reducible refine Chg.drew ?_) | (with_reducible refine Chg.trans ?_ (Chg.of_ext (by with_reducible assumption)))))
 have owa4 : Own W (.sl .flt) [.slice pqa4 (List.length a4) cqa4] a4 bs1 := owna4.chg ch1 (fun b hb => by have := lo1 b hb; simp at this; omega)
 have ch2 : Chg (fun b => b < w.heap.size + 3) w2 W := by subst hW; (repeat (first | with_reducible exact Chg.refl _ _ | (with_reducible exact Chg.of_ext (by with_reducible assumption)) | with_reducible assumption | ((with_reducible refine Chg.setCell ?_ ?_ _); rotate_left; focus (first | (simp; done) | (simp; omega))) | (with_reducible refine Chg.alloc ?_ _) | (with_reducible refine Chg.drew ?_) | (with_reducible refine Chg.trans ?_ (Chg.of_ext (by with_reducible assumption)))))
 have owa5 : Own W (.sl .flt) [.slice pqa5 (List.length a5) cqa5] a5 bs2 := owna5.chg ch2 (fun b hb => by have := lo2 b hb; simp at this y1; omega)
 refine ⟨[.int .i64 a1, .int .i64 a2, .int .i64 a3, .slice pqa4 (List.length a4) cqa4, .slice pqa5 (List.length a5) cqa5], ([] ++ ([] ++ ([] ++ (bs1 ++ (bs2 ++ ([])))))), rfl, (⟨[.int .i64 a1], [.int .i64 a2, .int .i64 a3, .slice pqa4 (List.length a4) cqa4, .slice pqa5 (List.length a5) cqa5], [], ([] ++ ([] ++ (bs1 ++ (bs2 ++ ([]))))), rfl, ⟨rfl, rfl⟩, ⟨[.int .i64 a2], [.int .i64 a3, .slice pqa4 (List.length a4) cqa4, .slice pqa5 (List.length a5) cqa5], [], ([] ++ (bs1 ++ (bs2 ++ ([])))), rfl, ⟨rfl, rfl⟩, ⟨[.int .i64 a3], [.slice pqa4 (List.length a4) cqa4, .slice pqa5 (List.length a5) cqa5], [], (bs1 ++ (bs2 ++ ([]))), rfl, ⟨rfl, rfl⟩, ⟨[.slice pqa4 (List.length a4) cqa4], [.slice pqa5 (List.length a5) cqa5], bs1, (bs2 ++ ([])), rfl, owa4, ⟨[.slice pqa5 (List.length a5) cqa5], [], bs2, ([]), rfl, owa5, ⟨rfl, rfl⟩, rfl⟩, rfl⟩, rfl⟩, rfl⟩, rfl⟩ : Own W shLayer [.int .i64 a1, .int .i64 a2, .int .i64 a3, .slice pqa4 (List.length a4) cqa4, .slice pqa5 (List.length a5) cqa5] (a1, a2, a3, a4, a5, au) _), ?_, ?_, eW⟩
 · simp only [List.nil_append, List.append_nil]
   exact nodup_app2 w1.heap.size nd1 (nd2) (owna4.lt) (fun b hb => by (have := lo2 b hb; simp at this; omega))
 · intro b hb
   simp only [List.nil_append, List.append_nil, List.mem_append] at hb
   rcases hb with hb | hb
   · have := lo1 b hb; simp at this; omega
   · have := lo2 b hb; simp at this y1; omega
abbrev shLayerS : Sh := .sl shLayer
instance slLayerSimpl : SlTy Tryz.prog 33 100 5 (.agg #[.int .i64 0, .int .i64 0, .int .i64 0, .slice none 0 0, .slice none 0 0]) 72 := ⟨by kernel_rfl, by kernel_rfl, by kernel_rfl, by decide, by decide⟩
instance szLayerSimpl : SlTy Tryz.prog 33 100 (Sh.sz shLayer) (.agg #[.int .i64 0, .int .i64 0, .int .i64 0, .slice none 0 0, .slice none 0 0]) 72 := slLayerSimpl
instance elLayerSimpl : ElTy Tryz.prog 100 shLayer := ⟨by kernel_rfl, by kernel_rfl⟩
instance slLayerSlaws : SlTy Tryz.prog 22 93 5 (.agg #[.int .i64 0, .int .i64 0, .int .i64 0, .slice none 0 0, .slice none 0 0]) 72 := ⟨by kernel_rfl, by kernel_rfl, by kernel_rfl, by decide, by decide⟩
instance szLayerSlaws : SlTy Tryz.prog 22 93 (Sh.sz shLayer) (.agg #[.int .i64 0, .int .i64 0, .int .i64 0, .slice none 0 0, .slice none 0 0]) 72 := slLayerSlaws
instance elLayerSlaws : ElTy Tryz.prog 93 shLayer := ⟨by kernel_rfl, by kernel_rfl⟩
set_option maxRecDepth 100000 in
set_option maxHeartbeats 1000000 in
theorem eqLayerS_ok : EqOk 39 shLayerS := by
 intro cs cs' l w hu hv hn
 obtain ⟨p, c, css, rfl, h2, h3, h4, h5, h6, h7⟩ := rep_sl hu
 obtain ⟨q, d, css', rfl, g2, g3, g4, g5, g6, g7⟩ := rep_sl hv
 have hle := Nat.le_trans (tot_len l) hn
 generalize hL : l.length = n at *
 have HL := hid hL
 clear hL
 simp only [ofCs, Sh.agg, List.headD_cons, Bool.false_eq_true, if_false]
 go_enter Tryz.func39, Tryz.ntmps39
 go_wp2
 go_loopw [5] (fun iv wr => ∃ i : Nat, i ≤ n ∧ iv = .int .i64 i ∧ Ext w wr) (fun iv _ => n - (intOf iv).toNat)
 case atStart => exact ⟨0, by omega, rfl, Ext.refl w⟩
 case round =>
  obtain ⟨i, hi, rfl, he⟩ := hrel
  by_cases hlt : i < n
  · have hp' := (h2.ext he).ext (Ext.drew wr)
    have hq' := (g2.ext he).ext (Ext.drew wr)
    have hil : i < l.length := by rw [HL.out]; exact hlt
    obtain ⟨ci, hci, ri⟩ := h5.get i l[i] (by simp)
    obtain ⟨di, hdi, si⟩ := g5.get i l[i] (by simp)
    have hs1 := h2.some_of h6 (by decide) (show 0 < css.length by omega)
    have hs2 := g2.some_of g6 (by decide) (show 0 < css'.length by omega)
    have hb := Nat.le_trans (Nat.le_trans (Nat.le_add_right _ _) (tot_get l i hil)) hn
    go_wp2_with fail
    refine wp_region_xall (F := fun _ _ u => u = .bool true) (by kernel_rfl) (by kernel_rfl) (by kernel_rfl) ?_
    intro wf hwf
    refine x_mv rfl rfl rfl ?_
    simp only [Act.put, ev_tmp, pu1, pu2, pu3, pu4, pu5]
    refine x_mv rfl rfl rfl ?_
    simp only [Act.put, ev_tmp, pu1, pu2, pu3, pu4, pu5]
    refine x_idxloadE (s := shLayer) (j := i) rfl rfl (fun _ => rfl) rfl (fun _ => rfl) rfl rfl rfl hp' h6 h7 hlt hs1 hci ?_
    simp only [Act.put, ev_tmp, pu1, pu2, pu3, pu4, pu5]
    refine x_mv rfl rfl rfl ?_
    simp only [Act.put, ev_tmp, pu1, pu2, pu3, pu4, pu5]
    refine x_mv rfl rfl rfl ?_
    simp only [Act.put, ev_tmp, pu1, pu2, pu3, pu4, pu5]
    refine x_idxloadE (s := shLayer) (j := i) rfl rfl (fun _ => rfl) rfl (fun _ => rfl) rfl rfl rfl hq' g6 g7 hlt hs2 hdi ?_
    simp only [Act.put, ev_tmp, pu1, pu2, pu3, pu4, pu5]
    refine x_callf (f := 68) (args := #[ofCs shLayer ci, ofCs shLayer di]) rfl rfl Tryz.func68 rfl (by kernel_rfl) (by simp [Act.eval]) (fun w1 hw1 => (eqLayer_ok ci di l[i] w1 (((ri.ext he).ext (Ext.drew wr)).ext hw1) (((si.ext he).ext (Ext.drew wr)).ext hw1) hb).mono fun e w3 h => ⟨_, h.1, h.2, rfl⟩) ?_
    rintro u w3 _ _ rfl
    simp only [Act.put, ev_tmp, pu1, pu2, pu3, pu4, pu5]
    refine x_run rfl fun K hK w1 _ => ?_
    go_simp
    refine hK _ ?_
    clear hK K
    refine x_nil ?_
    have he' := (he.trans (Ext.drew wr)).trans hwf
    clear hwf hp' hq' he
    go_wp2
    go_roundw
    case rel => exact ⟨i + 1, by omega, by go_num, he'⟩
    case measure => simp [intOf]; omega
  · obtain rfl : i = n := by omega
    go_wp2
    go_ret
    exact ⟨rfl, he⟩
set_option maxRecDepth 100000 in
set_option maxHeartbeats 1000000 in
theorem szLayerS_ok : SzOk 30 shLayerS := by
 intro cs l left w hu hl0 hl1
 obtain ⟨p, c, css, rfl, h2, h3, h4, h5, h6, h7⟩ := rep_sl hu
 have hle := Nat.le_trans h3 h4
 have ht := tot_sl l
 have hts := fun i hi => sum_take_le id (l.map (tot shLayer)) i hi
 generalize hL : l.length = n at *
 have HL := hid hL
 clear hL
 unfold maxLen at hle
 generalize hT : tot shLayerS l = T at *
 have HT := hid hT
 have Ht := hid ht
 clear hT ht
 simp only [ofCs, Sh.agg, List.headD_cons, Bool.false_eq_true, if_false]
 by_cases hneg : left - n < 0
 · go_enter Tryz.func30, Tryz.ntmps30
   go_wp2
   go_ret
   exact ⟨⟨-1, rfl, .inl (by omega)⟩, Ext.refl _⟩
 · go_enter Tryz.func30, Tryz.ntmps30
   go_wp2
   go_loopw [1, 5] (fun lv iv wr => ∃ (i : Nat) (lf : Int), i ≤ n ∧ iv = .int .i64 i ∧ lv = .int .i64 lf ∧ 0 ≤ lf ∧ lf ≤ 1048576 ∧ Hid (lf = left - n - (((l.map (tot shLayer)).take i).sum : Nat)) ∧ Ext w wr) (fun _ iv _ => n - (intOf iv).toNat)
   case atStart => exact ⟨0, left - n, by omega, rfl, rfl, by omega, by omega, by unfold Hid; simp, Ext.refl w⟩
   case round =>
    obtain ⟨i, lf, hi, rfl, rfl, hf0, hf1, Hlf, he⟩ := hrel
    by_cases hlt : i < n
    · have hp' := h2.ext he
      have hil : i < l.length := by rw [HL.out]; exact hlt
      obtain ⟨ci, hci, ri⟩ := h5.get i l[i] (by simp)
      have hs1 := h2.some_of h6 (by decide) (show 0 < css.length by omega)
      go_wp2_with (refine wl_idxloadE (s := shLayer) (j := i) rfl rfl rfl rfl (fun _ => rfl) rfl rfl rfl hp' h6 h7 hlt hs1 hci ?_)
      refine (szLayer_ok ci l[i] lf _ (ri.ext he) hf0 hf1).mono ?_
      rintro e w1 ⟨⟨r, rfl, hr⟩, e1⟩
      by_cases hrn : r < 0
      · go_wp2
        go_ret
        exact ⟨⟨-1, rfl, .inl (by omega)⟩, he.trans e1⟩
      · have hr' : r = lf - (tot shLayer l[i] : Int) := by rcases hr with h | h; exact absurd h hrn; exact h.1
        have Hr := hid hr'
        have hr1 : r ≤ 1048576 := by omega
        clear hr hr'
        go_wp2
        go_roundw
        case rel =>
         refine ⟨i + 1, r, by omega, by go_num, rfl, by omega, hr1, ?_, he.trans e1⟩
         have h9 : ((l.map (tot shLayer)).take (i + 1)).sum = ((l.map (tot shLayer)).take i).sum + tot shLayer l[i] := by
          rw [List.take_add_one, List.sum_append, List.getElem?_map, List.getElem?_eq_getElem hil]; simp
         rw [Hid, h9, Hr.out, Hlf.out]; omega
        case measure => simp [intOf]; omega
    · obtain rfl : i = n := by omega
      go_wp2
      go_ret
      refine ⟨⟨lf, rfl, .inr ⟨?_, hf0⟩⟩, he⟩
      have h8 := Hlf.out
      rw [List.take_of_length_le (by rw [List.length_map, HL.out]; exact Nat.le_refl _)] at h8
      have := Ht.out
      omega
set_option maxRecDepth 100000 in
set_option maxHeartbeats 1000000 in
theorem toLayerS_ok : ToOk 33 shLayerS := by
 intro cs l w hu hn
 obtain ⟨p, c, css, rfl, h2, h3, h4, h5, h6, h7⟩ := rep_sl hu
 have hle := Nat.le_trans (tot_len l) hn
 generalize hL : l.length = n at *
 have HL := hid hL
 clear hL
 simp only [ofCs, Sh.agg, List.headD_cons, Bool.false_eq_true, if_false]
 go_enter Tryz.func33, Tryz.ntmps33
 go_wp2_with (refine wl_make w.heap.size n rfl rfl rfl rfl (by unfold maxLen; omega) (by omega) (Nat.le_refl _) ?_; intro g w1 own1 e1)
 have hg := (own_B own1).1
 obtain ⟨us0, hu0, hu1, hu2⟩ := made_rows (z := (.agg #[.int .i64 0, .int .i64 0, .int .i64 0, .slice none 0 0, .slice none 0 0])) (s := Sh.sz shLayer) n rfl
 have own2 : OwnRow w1 (some ⟨g, 0, none⟩) n n us0.flatten := by rw [hu0]; exact ownRow_of own1
 go_loopw [4] (fun iv wr => ∃ (i : Nat) (us : List (List Value)) (bss : List (List Nat)), i ≤ n ∧ iv = .int .i64 i ∧ us.length = n ∧ (∀ c ∈ us, c.length = Sh.sz shLayer) ∧ OwnRow wr (some ⟨g, 0, none⟩) n n us.flatten ∧ Hid (OwnEs wr shLayer (us.take i) bss (l.take i)) ∧ Hid (bss.flatten.Nodup) ∧ Hid (∀ b ∈ bss.flatten, w.heap.size ≤ b ∧ b ≠ g) ∧ Ext w wr ∧ g < wr.heap.size) (fun iv _ => n - (intOf iv).toNat)
 case atStart => exact ⟨0, us0, [], by omega, rfl, hu1, hu2, own2, ⟨by simp, by simp, fun i cs bs d h => by simp at h⟩, by simp [Hid], by simp [Hid], e1, (own_B own1).2⟩
 case round =>
  clear own1 own2 e1 hu0 hu1 hu2
  obtain ⟨i, us, bss, hi, rfl, hul, hall, own1, Hes, Hnd, Hlo, e1, hgl⟩ := hrel
  by_cases hlt : i < n
  · have hcw := h2.ext e1
    have hil : i < l.length := by rw [HL.out]; exact hlt
    obtain ⟨ci, hci, ri⟩ := h5.get i l[i] (by simp)
    have hs1 := h2.some_of h6 (by decide) (show 0 < css.length by omega)
    have hb := Nat.le_trans (Nat.le_trans (Nat.le_add_right _ _) (tot_get l i hil)) hn
    go_wp2_with (refine wl_idxloadE (s := shLayer) (j := i) rfl rfl rfl rfl (fun _ => rfl) rfl rfl rfl hcw h6 h7 hlt hs1 hci ?_)
    refine (toLayer_ok ci l[i] _ (ri.ext e1) hb).mono ?_
    rintro e w2 ⟨di, bs, rfl, ow, nd, lo, e2⟩
    have own2 := own1.chg (.of_ext e2) (S := fun _ => False) (fun _ _ h => h)
    have hdl := ow.rep.size
    have hd1 := ow.rep.one
    go_wp2_with (first | (refine wl_idxE (s := Sh.sz shLayer) rfl rfl rfl rfl rfl rfl hlt ?_) | (refine wl_storeE (s := shLayer) (cs := di) rfl rfl rfl rfl own2 hall (by omega) hdl (by decide) hd1 ?_; intro w3 own3 ch3))
    have hgb : ∀ b ∈ bs, ¬ b ∈ blocksOf (some ⟨g, 0, none⟩) := fun b hb h => by have := lo b hb; simp [blocksOf] at h; omega
    have lt1 : ∀ b ∈ bss.flatten, b < wr.heap.size := fun b hb => by
     obtain ⟨bj, hm, hbj⟩ := List.mem_flatten.1 hb
     obtain ⟨j, hj, rfl⟩ := List.mem_iff_getElem.1 hm
     have k1 := Hes.out.1; have k2 := Hes.out.2.1
     exact (Hes.out.2.2 j ((us.take i)[j]'(by omega)) bss[j] ((l.take i)[j]'(by omega)) (List.getElem?_eq_getElem _) (List.getElem?_eq_getElem _) (List.getElem?_eq_getElem _)).lt b hbj
    have es3 : OwnEs w3 shLayer (us.take i) bss (l.take i) := (Hes.out.chg (.of_ext e2) (S := fun _ => False) (fun _ _ h => h)).chg ch3 fun b hb h => by simp [blocksOf] at h; exact (Hlo.out b hb).2 h
    have ow3 : Own w3 shLayer di l[i] bs := ow.chg ch3 hgb
    go_roundw
    case rel =>
     refine ⟨i + 1, us.set i di, bss ++ [bs], by omega, by go_num, by rw [List.length_set]; exact hul, all_set hall hdl, own3, ?_, ?_, ?_, ?_, ?_⟩
     · rw [take_set_succ (by omega), List.take_add_one, List.getElem?_eq_getElem hil]
       exact es3.snoc ow3
     · unfold Hid
       rw [List.flatten_append, List.flatten_cons, List.flatten_nil, List.append_nil]
       exact nodup_app Hnd.out nd lt1 lo
     · intro b hb
       rw [List.flatten_append, List.flatten_cons, List.flatten_nil, List.append_nil, List.mem_append] at hb
       rcases hb with hb | hb
       · exact Hlo.out b hb
       · have := lo b hb; have := e1.size; exact ⟨by omega, by omega⟩
     · exact (e1.trans e2).chg ch3 fun b hb => by simp [blocksOf] at hb; omega
     · have := ch3.size; have := e2.size; omega
    case measure => simp [intOf]; omega
  · obtain rfl : i = n := by omega
    go_wp2
    go_ret
    have k1 := Hes.out
    rw [List.take_of_length_le (by omega), List.take_of_length_le (by rw [HL.out]; exact Nat.le_refl _)] at k1
    have k2 := HL.out
    refine ⟨_, g :: bss.flatten, rfl, own_sl.2 ⟨some ⟨g, 0, none⟩, i, us, bss, by first | (rw [k2]; done) | (rw [k2]; rfl), by rw [k2]; exact own1, by omega, by unfold maxLen; omega, k1, rfl⟩, ?_, ?_, e1⟩
    · rw [List.nodup_cons]; exact ⟨fun h => (Hlo.out g h).2 rfl, Hnd.out⟩
    · intro b hb; rcases List.mem_cons.1 hb with rfl | hb
      · exact hg
      · exact (Hlo.out b hb).1
abbrev shModel : Sh := .pr shLayerS (.un)
instance elStModelimpl : ElTy Tryz.prog 35 shModel := ⟨by kernel_rfl, by kernel_rfl⟩
instance elStModellaws : ElTy Tryz.prog 24 shModel := ⟨by kernel_rfl, by kernel_rfl⟩
set_option maxRecDepth 100000 in
set_option maxHeartbeats 1000000 in
theorem eqModel_ok : EqOk 14 shModel := by
 intro cs cs' d w hu hv hn
 obtain ⟨a1, au⟩ := d
 obtain ⟨_, _, rfl, ha1, rfl⟩ := hu
 obtain ⟨pa1, ca1, rfl, hla1⟩ := rep_val ha1
 obtain ⟨_, _, rfl, hqa1, rfl⟩ := hv
 obtain ⟨pqa1, cqa1, rfl, hlqa1⟩ := rep_val hqa1
 have hba1 : tot shLayerS a1 ≤ 1048576 := by simp only [tot] at hn ⊢; omega
 simp only [ofCs, Sh.agg, List.cons_append, List.nil_append, if_true]
 go_enter Tryz.func14, Tryz.ntmps14
 go_wp2_with fail
 refine (eqLayerS_ok [.slice pa1 (List.length a1) ca1] [.slice pqa1 (List.length a1) cqa1] a1 _ (Rep.ext (w := w) ?_ (ha1 : Rep w shLayerS [.slice pa1 (List.length a1) ca1] a1)) (Rep.ext (w := w) ?_ (hqa1 : Rep w shLayerS [.slice pqa1 (List.length a1) cqa1] a1)) hba1).mono ?_
 · (repeat (first | with_reducible exact Ext.refl _ | with_reducible assumption | ((with_reducible refine Ext.setCell ?_ ?_ _); rotate_left; focus (first | (simp; done) | (simp; omega))) | (with_reducible refine Ext.trans ?_ (Ext.alloc _ _)) | (with_reducible refine Ext.trans ?_ (Ext.drew _)) | (with_reducible refine Ext.trans ?_ (by with_reducible assumption))))
 · (repeat (first | with_reducible exact Ext.refl _ | with_reducible assumption | ((with_reducible refine Ext.setCell ?_ ?_ _); rotate_left; focus (first | (simp; done) | (simp; omega))) | (with_reducible refine Ext.trans ?_ (Ext.alloc _ _)) | (with_reducible refine Ext.trans ?_ (Ext.drew _)) | (with_reducible refine Ext.trans ?_ (by with_reducible assumption))))
 rintro e w1 ⟨rfl, e1⟩
 have x1_0 := e1.cellOf (b := w.heap.size) (by first | (simp; done) | (simp; omega))
 have x1_1 := e1.cellOf (b := w.heap.size + 1) (by first | (simp; done) | (simp; omega))
 have y1 := e1.size
 go_wp2
 go_ret
 refine ⟨rfl, ?_⟩
 (repeat (first | with_reducible exact Ext.refl _ | with_reducible assumption | ((with_reducible refine Ext.setCell ?_ ?_ _); rotate_left; focus (first | (simp; done) | (simp; omega))) | (with_reducible refine Ext.trans ?_ (Ext.alloc _ _)) | (with_reducible refine Ext.trans ?_ (Ext.drew _)) | (with_reducible refine Ext.trans ?_ (by with_reducible assumption))))
set_option maxRecDepth 100000 in
set_option maxHeartbeats 1000000 in
theorem szModel_ok : SzOk 6 shModel := by
 intro cs d left w hu hl0 hl1
 obtain ⟨a1, au⟩ := d
 obtain ⟨_, _, rfl, ha1, rfl⟩ := hu
 obtain ⟨pa1, ca1, rfl, hla1⟩ := rep_val ha1
 simp only [ofCs, Sh.agg, List.cons_append, List.nil_append, if_true]
 generalize hT : tot shModel (a1, au) = T
 have HT := hid hT
 clear hT
 go_enter Tryz.func6, Tryz.ntmps6
 go_wp2_with fail
 refine (szLayerS_ok [.slice pa1 (List.length a1) ca1] a1 left _ (Rep.ext (w := w) ?_ (ha1 : Rep w shLayerS [.slice pa1 (List.length a1) ca1] a1)) (by omega) (by omega)).mono ?_
 · (repeat (first | with_reducible exact Ext.refl _ | with_reducible assumption | ((with_reducible refine Ext.setCell ?_ ?_ _); rotate_left; focus (first | (simp; done) | (simp; omega))) | (with_reducible refine Ext.trans ?_ (Ext.alloc _ _)) | (with_reducible refine Ext.trans ?_ (Ext.drew _)) | (with_reducible refine Ext.trans ?_ (by with_reducible assumption))))
 rintro e w1 ⟨⟨r1, rfl, hr1⟩, e1⟩
 have x1_0 := e1.cellOf (b := w.heap.size) (by first | (simp; done) | (simp; omega))
 have y1 := e1.size
 by_cases hn1 : r1 < 0
 · go_wp2
   go_ret
   refine ⟨⟨-1, rfl, .inl (by omega)⟩, ?_⟩
   (repeat (first | with_reducible exact Ext.refl _ | with_reducible assumption | ((with_reducible refine Ext.setCell ?_ ?_ _); rotate_left; focus (first | (simp; done) | (simp; omega))) | (with_reducible refine Ext.trans ?_ (Ext.alloc _ _)) | (with_reducible refine Ext.trans ?_ (Ext.drew _)) | (with_reducible refine Ext.trans ?_ (by with_reducible assumption))))
 have hq1 : r1 = left - (tot shLayerS a1 : Int) := by rcases hr1 with h | h; exact absurd h hn1; exact h.1
 have Hq1 := hid hq1
 have hz1 : 0 ≤ r1 := by omega
 have ht1 : r1 ≤ 1048576 := by omega
 clear hr1 hq1
 go_wp2
 go_ret
 refine ⟨⟨_, rfl, .inr ⟨?_, by omega⟩⟩, ?_⟩
 · have h0 := HT.out
   simp only [tot] at h0
   have h1 := Hq1.out
   simp only [tot] at h1
   omega
 · (repeat (first | with_reducible exact Ext.refl _ | with_reducible assumption | ((with_reducible refine Ext.setCell ?_ ?_ _); rotate_left; focus (first | (simp; done) | (simp; omega))) | (with_reducible refine Ext.trans ?_ (Ext.alloc _ _)) | (with_reducible refine Ext.trans ?_ (Ext.drew _)) | (with_reducible refine Ext.trans ?_ (by with_reducible assumption))))
set_option maxRecDepth 100000 in
set_option maxHeartbeats 1000000 in
theorem toModel_ok : ToOk 9 shModel := by
 intro cs d w hu hn
 obtain ⟨a1, au⟩ := d
 obtain ⟨_, _, rfl, ha1, rfl⟩ := hu
 obtain ⟨pa1, ca1, rfl, hla1⟩ := rep_val ha1
 have hba1 : tot shLayerS a1 ≤ 1048576 := by simp only [tot] at hn ⊢; omega
 simp only [ofCs, Sh.agg, List.cons_append, List.nil_append, if_true]
 go_enter Tryz.func9, Tryz.ntmps9
 go_wp2_with fail
 refine (toLayerS_ok [.slice pa1 (List.length a1) ca1] a1 _ (Rep.ext (w := w) ?_ (ha1 : Rep w shLayerS [.slice pa1 (List.length a1) ca1] a1)) hba1).mono ?_
 · (repeat (first | with_reducible exact Ext.refl _ | with_reducible assumption | ((with_reducible refine Ext.setCell ?_ ?_ _); rotate_left; focus (first | (simp; done) | (simp; omega))) | (with_reducible refine Ext.trans ?_ (Ext.alloc _ _)) | (with_reducible refine Ext.trans ?_ (Ext.drew _)) | (with_reducible refine Ext.trans ?_ (by with_reducible assumption))))
 rintro e w1 ⟨cs1, bs1, rfl, owna1, nd1, lo1, e1⟩
 obtain ⟨pqa1, cqa1, rfl, glqa1⟩ := rep_val owna1.rep
 have hqa1 := owna1.rep
 simp only [ofCs, Sh.agg, List.headD_cons, Bool.false_eq_true, if_false]
 have x1_0 := e1.cellOf (b := w.heap.size) (by first | (simp; done) | (simp; omega))
 have x1_1 := e1.cellOf (b := w.heap.size + 1) (by first | (simp; done) | (simp; omega))
 have x1_2 := e1.cellOf (b := w.heap.size + 2) (by first | (simp; done) | (simp; omega))
 have y1 := e1.size
 go_wp2
 refine bodyPost_ret (v := .agg #[.slice pqa1 (List.length a1) cqa1]) (by simp [results, Tryz.results9, go_sem, x1_0, x1_1, x1_2, y1]) rfl ?_
 generalize hW : World.setCell _ _ _ = W
 have eW : Ext w W := by subst hW; (repeat (first | with_reducible exact Ext.refl _ | with_reducible assumption | ((with_reducible refine Ext.setCell ?_ ?_ _); rotate_left; focus (first | (simp; done) | (simp; omega))) | (with_reducible refine Ext.trans ?_ (Ext.alloc _ _)) | (with_reducible refine Ext.trans ?_ (Ext.drew _)) | (with_reducible refine Ext.trans ?_ (by with_reducible assumption))))
 have ch1 : Chg (fun b => b < w.heap.size + 3) w1 W := by subst hW; (repeat (first | with_reducible exact Chg.refl _ _ | (with_reducible exact Chg.of_ext (by with_reducible assumption)) | with_reducible assumption | ((with_reducible refine Chg.setCell ?_ ?_ _); rotate_left; focus (first | (simp; done) | (simp; omega))) | (with_reducible refine Chg.alloc ?_ _) | (with_reducible refine Chg.drew ?_) | (with_reducible refine Chg.trans ?_ (Chg.of_ext (by with_reducible assumption)))))
 have owa1 : Own W shLayerS [.slice pqa1 (List.length a1) cqa1] a1 bs1 := owna1.chg ch1 (fun b hb => by have := lo1 b hb; simp at this; omega)
 refine ⟨[.slice pqa1 (List.length a1) cqa1], (bs1 ++ ([])), rfl, (⟨[.slice pqa1 (List.length a1) cqa1], [], bs1, ([]), rfl, owa1, ⟨rfl, rfl⟩, rfl⟩ : Own W shModel [.slice pqa1 (List.length a1) cqa1] (a1, au) _), ?_, ?_, eW⟩
 · simp only [List.nil_append, List.append_nil]
   exact nd1
 · intro b hb
   simp only [List.nil_append, List.append_nil, List.mem_append] at hb
   have := lo1 b hb; simp at this; omega
end Go.Proofs.YtlimabbeaimdgaaGreat
