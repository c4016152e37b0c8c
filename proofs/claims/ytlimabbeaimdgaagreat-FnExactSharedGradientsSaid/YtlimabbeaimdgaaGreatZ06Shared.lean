/- A part of the proofs: HLayer, HLayerS. -/
import Derived.Test.YtlimabbeaimdgaaGreatZ04Shared
set_option linter.unusedSimpArgs false
set_option linter.unusedVariables false
set_option maxRecDepth 100000
set_option maxHeartbeats 16000000
namespace Go.Proofs.YtlimabbeaimdgaaGreat
open Go.RowKit
abbrev jac : Sh := .pr .int (.pr .int (.pr .int (.pr (.sl .flt) (.pr (.sl .flt) (.un)))))
theorem fo_implLayer_0 (q : Addr) (w : World) : (Instr.fieldAt 100 (.pointer (some q)) 0).run Tryz.prog w = .ok (.pointer (some (q.add 0))) w := by go_simp
theorem jb5 (q : Addr) (w : World) : (Instr.fieldAt 100 (.pointer (some q)) 1).run Tryz.prog w = .ok (.pointer (some (q.add 1))) w := by go_simp
theorem jbx (q : Addr) (w : World) : (Instr.fieldAt 100 (.pointer (some q)) 2).run Tryz.prog w = .ok (.pointer (some (q.add 2))) w := by go_simp
theorem fo_implLayer_3 (q : Addr) (w : World) : (Instr.fieldAt 100 (.pointer (some q)) 3).run Tryz.prog w = .ok (.pointer (some (q.add 3))) w := by go_simp
theorem fo_implLayer_4 (q : Addr) (w : World) : (Instr.fieldAt 100 (.pointer (some q)) 4).run Tryz.prog w = .ok (.pointer (some (q.add 4))) w := by go_simp
theorem eqLayer_ok : EqOk 68 jac := by
 intro cs cs' d w hu hv hn;obtain ⟨a1,a2,a3,a4,a5,au⟩ := d;obtain ⟨_,_,rfl,rfl,_,_,rfl,rfl,_,_,rfl,rfl,_,_,rfl,ha4,_,_,rfl,ha5,rfl⟩ := hu;obtain ⟨pa4,ca4,rfl,hla4⟩ := jbb ha4;obtain ⟨pa5,ca5,rfl,hla5⟩ := jbb ha5;obtain ⟨_,_,rfl,rfl,_,_,rfl,rfl,_,_,rfl,rfl,_,_,rfl,hqa4,_,_,rfl,hqa5,rfl⟩ := hv;obtain ⟨pqa4,cqa4,rfl,hlqa4⟩ := jbb hqa4;obtain ⟨pqa5,cqa5,rfl,hlqa5⟩ := jbb hqa5;have hba4 : tot (.sl .flt) a4 ≤ 1048576 := by simp only [tot] at hn ⊢;omega
 have hba5 : tot (.sl .flt) a5 ≤ 1048576 := by simp only [tot] at hn ⊢;omega
 simp only [ofCs,Sh.agg,List.cons_append,List.nil_append,if_true];go_enter Tryz.func68,Tryz.ntmps68;go_wp2_with fail;refine (jcy [.slice pa4 (List.length a4) ca4] [.slice pqa4 (List.length a4) cqa4] a4 _ (Rep.ext (w := w) ?_ (ha4 : Rep w (.sl .flt) [.slice pa4 (List.length a4) ca4] a4)) (Rep.ext (w := w) ?_ (hqa4 : Rep w (.sl .flt) [.slice pqa4 (List.length a4) cqa4] a4)) hba4).mono ?_
 · (repeat (first | (with_reducible first | exact Ext.refl _ | assumption) | ((with_reducible refine Ext.setCell ?_ ?_ _);rotate_left;focus (first | (simp;done) | (simp;omega))) | (with_reducible first | refine px1 ?_ _ | refine px2 ?_ | refine Ext.trans ?_ (by assumption))))
 · (repeat (first | (with_reducible first | exact Ext.refl _ | assumption) | ((with_reducible refine Ext.setCell ?_ ?_ _);rotate_left;focus (first | (simp;done) | (simp;omega))) | (with_reducible first | refine px1 ?_ _ | refine px2 ?_ | refine Ext.trans ?_ (by assumption))))
 rintro e w1 ⟨rfl,e1⟩
 have x1_0 := e1.cellOf (b := w.heap.size) (by first | (simp;done) | (simp;omega));have x1_1 := e1.cellOf (b := w.heap.size + 1) (by first | (simp;done) | (simp;omega));have y1 := e1.size;go_wp2_with fail;refine (jcy [.slice pa5 (List.length a5) ca5] [.slice pqa5 (List.length a5) cqa5] a5 _ (Rep.ext (w := w) ?_ (ha5 : Rep w (.sl .flt) [.slice pa5 (List.length a5) ca5] a5)) (Rep.ext (w := w) ?_ (hqa5 : Rep w (.sl .flt) [.slice pqa5 (List.length a5) cqa5] a5)) hba5).mono ?_
 · (repeat (first | (with_reducible first | exact Ext.refl _ | assumption) | ((with_reducible refine Ext.setCell ?_ ?_ _);rotate_left;focus (first | (simp;done) | (simp;omega))) | (with_reducible first | refine px1 ?_ _ | refine px2 ?_ | refine Ext.trans ?_ (by assumption))))
 · (repeat (first | (with_reducible first | exact Ext.refl _ | assumption) | ((with_reducible refine Ext.setCell ?_ ?_ _);rotate_left;focus (first | (simp;done) | (simp;omega))) | (with_reducible first | refine px1 ?_ _ | refine px2 ?_ | refine Ext.trans ?_ (by assumption))))
 rintro e w2 ⟨rfl,e2⟩
 have x2_0 := e2.cellOf (b := w.heap.size) (by first | (simp;done) | (simp;omega) | (simp at y1 ⊢;omega) | (simp at y1;omega) | (simp at y1 ⊢;omega) | (simp at y1;omega));have x2_1 := e2.cellOf (b := w.heap.size + 1) (by first | (simp;done) | (simp;omega) | (simp at y1 ⊢;omega) | (simp at y1;omega) | (simp at y1 ⊢;omega) | (simp at y1;omega));have y2 := e2.size;go_wp2;go_ret;refine ⟨rfl,?_⟩
 (repeat (first | (with_reducible first | exact Ext.refl _ | assumption) | ((with_reducible refine Ext.setCell ?_ ?_ _);rotate_left;focus (first | (simp;done) | (simp;omega))) | (with_reducible first | refine px1 ?_ _ | refine px2 ?_ | refine Ext.trans ?_ (by assumption))))
theorem szLayer_ok : SzOk 48 jac := by
 intro cs d left w hu hl0 hl1;obtain ⟨a1,a2,a3,a4,a5,au⟩ := d;obtain ⟨_,_,rfl,rfl,_,_,rfl,rfl,_,_,rfl,rfl,_,_,rfl,ha4,_,_,rfl,ha5,rfl⟩ := hu;obtain ⟨pa4,ca4,rfl,hla4⟩ := jbb ha4;obtain ⟨pa5,ca5,rfl,hla5⟩ := jbb ha5;simp only [ofCs,Sh.agg,List.cons_append,List.nil_append,if_true];generalize hT : tot jac (a1,a2,a3,a4,a5,au) = T;have HT := hid hT;clear hT;go_enter Tryz.func48,Tryz.ntmps48;go_wp2_with fail;refine (szFloat32S_ok [.slice pa4 (List.length a4) ca4] a4 left _ (Rep.ext (w := w) ?_ (ha4 : Rep w (.sl .flt) [.slice pa4 (List.length a4) ca4] a4)) (by omega) (by omega)).mono ?_
 · (repeat (first | (with_reducible first | exact Ext.refl _ | assumption) | ((with_reducible refine Ext.setCell ?_ ?_ _);rotate_left;focus (first | (simp;done) | (simp;omega))) | (with_reducible first | refine px1 ?_ _ | refine px2 ?_ | refine Ext.trans ?_ (by assumption))))
 rintro e w1 ⟨⟨r1,rfl,hr1⟩,e1⟩
 have x1_0 := e1.cellOf (b := w.heap.size) (by first | (simp;done) | (simp;omega));have y1 := e1.size
 by_cases hn1 : r1 < 0
 · go_wp2
   go_ret;refine ⟨⟨-1,rfl,.inl (by omega)⟩,?_⟩
   (repeat (first | (with_reducible first | exact Ext.refl _ | assumption) | ((with_reducible refine Ext.setCell ?_ ?_ _);rotate_left;focus (first | (simp;done) | (simp;omega))) | (with_reducible first | refine px1 ?_ _ | refine px2 ?_ | refine Ext.trans ?_ (by assumption))))
 have hq1 : r1 = left - (tot (.sl .flt) a4 : Int) := by rcases hr1 with h | h;exact absurd h hn1;exact h.1
 have Hq1 := hid hq1;have hz1 : 0 ≤ r1 := by omega
 have ht1 : r1 ≤ 1048576 := by omega
 clear hr1 hq1;go_wp2_with fail;refine (szFloat32S_ok [.slice pa5 (List.length a5) ca5] a5 r1 _ (Rep.ext (w := w) ?_ (ha5 : Rep w (.sl .flt) [.slice pa5 (List.length a5) ca5] a5)) (by omega) (by omega)).mono ?_
 · (repeat (first | (with_reducible first | exact Ext.refl _ | assumption) | ((with_reducible refine Ext.setCell ?_ ?_ _);rotate_left;focus (first | (simp;done) | (simp;omega))) | (with_reducible first | refine px1 ?_ _ | refine px2 ?_ | refine Ext.trans ?_ (by assumption))))
 rintro e w2 ⟨⟨r2,rfl,hr2⟩,e2⟩
 have x2_0 := e2.cellOf (b := w.heap.size) (by first | (simp;done) | (simp;omega) | (simp at y1 ⊢;omega) | (simp at y1;omega) | (simp at y1 ⊢;omega) | (simp at y1;omega));have y2 := e2.size
 by_cases hn2 : r2 < 0
 · go_wp2
   go_ret;refine ⟨⟨-1,rfl,.inl (by omega)⟩,?_⟩
   (repeat (first | (with_reducible first | exact Ext.refl _ | assumption) | ((with_reducible refine Ext.setCell ?_ ?_ _);rotate_left;focus (first | (simp;done) | (simp;omega))) | (with_reducible first | refine px1 ?_ _ | refine px2 ?_ | refine Ext.trans ?_ (by assumption))))
 have hq2 : r2 = r1 - (tot (.sl .flt) a5 : Int) := by rcases hr2 with h | h;exact absurd h hn2;exact h.1
 have Hq2 := hid hq2;have hz2 : 0 ≤ r2 := by omega
 have ht2 : r2 ≤ 1048576 := by omega
 clear hr2 hq2;go_wp2;go_ret;refine ⟨⟨_,rfl,.inr ⟨?_,by omega⟩⟩,?_⟩
 · have h0 := HT.out
   simp only [tot] at h0;have h1 := Hq1.out;simp only [tot] at h1;have h2 := Hq2.out;simp only [tot] at h2;omega
 · (repeat (first | (with_reducible first | exact Ext.refl _ | assumption) | ((with_reducible refine Ext.setCell ?_ ?_ _);rotate_left;focus (first | (simp;done) | (simp;omega))) | (with_reducible first | refine px1 ?_ _ | refine px2 ?_ | refine Ext.trans ?_ (by assumption))))
theorem toLayer_ok : ToOk 55 jac := by
 intro cs d w hu hn;obtain ⟨a1,a2,a3,a4,a5,au⟩ := d;obtain ⟨_,_,rfl,rfl,_,_,rfl,rfl,_,_,rfl,rfl,_,_,rfl,ha4,_,_,rfl,ha5,rfl⟩ := hu;obtain ⟨pa4,ca4,rfl,hla4⟩ := jbb ha4;obtain ⟨pa5,ca5,rfl,hla5⟩ := jbb ha5;have hba4 : tot (.sl .flt) a4 ≤ 1048576 := by simp only [tot] at hn ⊢;omega
 have hba5 : tot (.sl .flt) a5 ≤ 1048576 := by simp only [tot] at hn ⊢;omega
 simp only [ofCs,Sh.agg,List.cons_append,List.nil_append,if_true];go_enter Tryz.func55,Tryz.ntmps55;go_wp2_with fail;refine (toFloat32S_ok [.slice pa4 (List.length a4) ca4] a4 _ (Rep.ext (w := w) ?_ (ha4 : Rep w (.sl .flt) [.slice pa4 (List.length a4) ca4] a4)) hba4).mono ?_
 · (repeat (first | (with_reducible first | exact Ext.refl _ | assumption) | ((with_reducible refine Ext.setCell ?_ ?_ _);rotate_left;focus (first | (simp;done) | (simp;omega))) | (with_reducible first | refine px1 ?_ _ | refine px2 ?_ | refine Ext.trans ?_ (by assumption))))
 rintro e w1 ⟨cs1,bs1,rfl,owna4,nd1,lo1,e1⟩
 obtain ⟨pqa4,cqa4,rfl,glqa4⟩ := jbb owna4.rep;have hqa4 := owna4.rep;simp only [ofCs,Sh.agg,List.headD_cons,Bool.false_eq_true,if_false];have x1_0 := e1.cellOf (b := w.heap.size) (by first | (simp;done) | (simp;omega));have x1_1 := e1.cellOf (b := w.heap.size + 1) (by first | (simp;done) | (simp;omega));have x1_2 := e1.cellOf (b := w.heap.size + 2) (by first | (simp;done) | (simp;omega));have y1 := e1.size;go_wp2_with fail;refine (toFloat32S_ok [.slice pa5 (List.length a5) ca5] a5 _ (Rep.ext (w := w) ?_ (ha5 : Rep w (.sl .flt) [.slice pa5 (List.length a5) ca5] a5)) hba5).mono ?_
 · (repeat (first | (with_reducible first | exact Ext.refl _ | assumption) | ((with_reducible refine Ext.setCell ?_ ?_ _);rotate_left;focus (first | (simp;done) | (simp;omega))) | (with_reducible first | refine px1 ?_ _ | refine px2 ?_ | refine Ext.trans ?_ (by assumption))))
 rintro e w2 ⟨cs2,bs2,rfl,owna5,nd2,lo2,e2⟩
 obtain ⟨pqa5,cqa5,rfl,glqa5⟩ := jbb owna5.rep;have hqa5 := owna5.rep;simp only [ofCs,Sh.agg,List.headD_cons,Bool.false_eq_true,if_false];have x2_0 := e2.cellOf (b := w.heap.size) (by first | (simp;done) | (simp;omega) | (simp at y1 ⊢;omega) | (simp at y1;omega) | (simp at y1 ⊢;omega) | (simp at y1;omega));have x2_1 := e2.cellOf (b := w.heap.size + 1) (by first | (simp;done) | (simp;omega) | (simp at y1 ⊢;omega) | (simp at y1;omega) | (simp at y1 ⊢;omega) | (simp at y1;omega));have x2_2 := e2.cellOf (b := w.heap.size + 2) (by first | (simp;done) | (simp;omega) | (simp at y1 ⊢;omega) | (simp at y1;omega) | (simp at y1 ⊢;omega) | (simp at y1;omega));have y2 := e2.size;go_wp2;refine bodyPost_ret (v := .agg #[.int .i64 a1,.int .i64 a2,.int .i64 a3,.slice pqa4 (List.length a4) cqa4,.slice pqa5 (List.length a5) cqa5]) (by simp [results,Tryz.results55,go_sem,x1_0,x1_1,x1_2,x2_0,x2_1,x2_2,y1,y2]) rfl ?_;generalize hW : World.setCell _ _ _ = W;have eW : Ext w W := by subst hW;(repeat (first | (with_reducible first | exact Ext.refl _ | assumption) | ((with_reducible refine Ext.setCell ?_ ?_ _);rotate_left;focus (first | (simp;done) | (simp;omega))) | (with_reducible first | refine px1 ?_ _ | refine px2 ?_ | refine Ext.trans ?_ (by assumption))))
 have ch1 : Chg (fun b => b < w.heap.size + 3) w1 W := by subst hW;(repeat (first | (with_reducible first | exact Chg.refl _ _ | exact Chg.of_ext (by assumption) | assumption) | ((with_reducible refine Chg.setCell ?_ ?_ _);rotate_left;focus (first | (simp;done) | (simp;omega))) | (with_reducible first | refine Chg.alloc ?_ _ | refine Chg.drew ?_ | refine px3 ?_ (by assumption))))
 have owa4 : Own W (.sl .flt) [.slice pqa4 (List.length a4) cqa4] a4 bs1 := owna4.chg ch1 (fun b hb => by have := lo1 b hb;simp at this;omega);have ch2 : Chg (fun b => b < w.heap.size + 3) w2 W := by subst hW;(repeat (first | (with_reducible first | exact Chg.refl _ _ | exact Chg.of_ext (by assumption) | assumption) | ((with_reducible refine Chg.setCell ?_ ?_ _);rotate_left;focus (first | (simp;done) | (simp;omega))) | (with_reducible first | refine Chg.alloc ?_ _ | refine Chg.drew ?_ | refine px3 ?_ (by assumption))))
 have owa5 : Own W (.sl .flt) [.slice pqa5 (List.length a5) cqa5] a5 bs2 := owna5.chg ch2 (fun b hb => by have := lo2 b hb;simp at this y1;omega);refine ⟨[.int .i64 a1,.int .i64 a2,.int .i64 a3,.slice pqa4 (List.length a4) cqa4,.slice pqa5 (List.length a5) cqa5],([] ++ ([] ++ ([] ++ (bs1 ++ (bs2 ++ ([])))))),rfl,(⟨[.int .i64 a1],[.int .i64 a2,.int .i64 a3,.slice pqa4 (List.length a4) cqa4,.slice pqa5 (List.length a5) cqa5],[],([] ++ ([] ++ (bs1 ++ (bs2 ++ ([]))))),rfl,⟨rfl,rfl⟩,⟨[.int .i64 a2],[.int .i64 a3,.slice pqa4 (List.length a4) cqa4,.slice pqa5 (List.length a5) cqa5],[],([] ++ (bs1 ++ (bs2 ++ ([])))),rfl,⟨rfl,rfl⟩,⟨[.int .i64 a3],[.slice pqa4 (List.length a4) cqa4,.slice pqa5 (List.length a5) cqa5],[],(bs1 ++ (bs2 ++ ([]))),rfl,⟨rfl,rfl⟩,⟨[.slice pqa4 (List.length a4) cqa4],[.slice pqa5 (List.length a5) cqa5],bs1,(bs2 ++ ([])),rfl,owa4,⟨[.slice pqa5 (List.length a5) cqa5],[],bs2,([]),rfl,owa5,⟨rfl,rfl⟩,rfl⟩,rfl⟩,rfl⟩,rfl⟩,rfl⟩ : Own W jac [.int .i64 a1,.int .i64 a2,.int .i64 a3,.slice pqa4 (List.length a4) cqa4,.slice pqa5 (List.length a5) cqa5] (a1,a2,a3,a4,a5,au) _),?_,?_,eW⟩
 · simp only [List.nil_append,List.append_nil]
   exact nodup_app2 w1.heap.size nd1 (nd2) (owna4.lt) (fun b hb => by (have := lo2 b hb;simp at this;omega))
 · intro b hb
   simp only [List.nil_append,List.append_nil,List.mem_append] at hb;rcases hb with hb | hb
   · have := lo1 b hb;simp at this;omega
   · have := lo2 b hb;simp at this y1;omega
abbrev jbv : Sh := .sl jac
instance slLayerSimpl : SlTy Tryz.prog 33 100 5 (.agg #[.int .i64 0,.int .i64 0,.int .i64 0,.slice none 0 0,.slice none 0 0]) 72 := ⟨by kernel_rfl,by kernel_rfl,by kernel_rfl,by decide,by decide⟩
instance szLayerSimpl : SlTy Tryz.prog 33 100 (Sh.sz jac) (.agg #[.int .i64 0,.int .i64 0,.int .i64 0,.slice none 0 0,.slice none 0 0]) 72 := slLayerSimpl
instance elLayerSimpl : ElTy Tryz.prog 100 jac := ⟨by kernel_rfl,by kernel_rfl⟩
instance slLayerSlaws : SlTy Tryz.prog 22 93 5 (.agg #[.int .i64 0,.int .i64 0,.int .i64 0,.slice none 0 0,.slice none 0 0]) 72 := ⟨by kernel_rfl,by kernel_rfl,by kernel_rfl,by decide,by decide⟩
instance szLayerSlaws : SlTy Tryz.prog 22 93 (Sh.sz jac) (.agg #[.int .i64 0,.int .i64 0,.int .i64 0,.slice none 0 0,.slice none 0 0]) 72 := slLayerSlaws
instance elLayerSlaws : ElTy Tryz.prog 93 jac := ⟨by kernel_rfl,by kernel_rfl⟩
theorem eqLayerS_ok : EqOk 39 jbv := by
 intro cs cs' l w hu hv hn;obtain ⟨p,c,css,rfl,h2,h3,h4,h5,h6,h7⟩ := rep_sl hu;obtain ⟨q,d,css',rfl,g2,g3,g4,g5,g6,g7⟩ := rep_sl hv;have hle := Nat.le_trans (tot_len l) hn;generalize hL : l.length = n at *;have HL := hid hL;clear hL;simp only [ofCs,Sh.agg,List.headD_cons,Bool.false_eq_true,if_false];go_enter Tryz.func39,Tryz.ntmps39;go_wp2;go_loopw [5] (fun iv wr => ∃ i : Nat,i ≤ n ∧ iv = .int .i64 i ∧ Ext w wr) (fun iv _ => n - (intOf iv).toNat)
 case atStart => exact ⟨0,by omega,rfl,Ext.refl w⟩
 case round =>
  obtain ⟨i,hi,rfl,he⟩ := hrel
  by_cases hlt : i < n
  · have hp' := (h2.ext he).ext (Ext.drew wr)
    have hq' := (g2.ext he).ext (Ext.drew wr);have hil : i < l.length := by rw [HL.out];exact hlt
    obtain ⟨ci,hci,ri⟩ := h5.get i l[i] (by simp);obtain ⟨di,hdi,si⟩ := g5.get i l[i] (by simp);have hs1 := h2.some_of h6 (by decide) (show 0 < css.length by omega);have hs2 := g2.some_of g6 (by decide) (show 0 < css'.length by omega);have hb := Nat.le_trans (Nat.le_trans (Nat.le_add_right _ _) (tot_get l i hil)) hn;go_wp2_with fail;refine jaf (F := fun _ _ u => u = .bool true) (by kernel_rfl) (by kernel_rfl) (by kernel_rfl) ?_;intro wf hwf;refine x_mv rfl rfl rfl ?_;simp only [Act.put,jab,pu1,pu2,pu3,pu4,pu5];refine x_mv rfl rfl rfl ?_;simp only [Act.put,jab,pu1,pu2,pu3,pu4,pu5];refine x_idxloadE (s := jac) (j := i) rfl rfl (fun _ => rfl) rfl (fun _ => rfl) rfl rfl rfl hp' h6 h7 hlt hs1 hci ?_;simp only [Act.put,jab,pu1,pu2,pu3,pu4,pu5];refine x_mv rfl rfl rfl ?_;simp only [Act.put,jab,pu1,pu2,pu3,pu4,pu5];refine x_mv rfl rfl rfl ?_;simp only [Act.put,jab,pu1,pu2,pu3,pu4,pu5];refine x_idxloadE (s := jac) (j := i) rfl rfl (fun _ => rfl) rfl (fun _ => rfl) rfl rfl rfl hq' g6 g7 hlt hs2 hdi ?_;simp only [Act.put,jab,pu1,pu2,pu3,pu4,pu5];refine jam (f := 68) (args := #[ofCs jac ci,ofCs jac di]) rfl rfl Tryz.func68 rfl (by kernel_rfl) (by simp [Act.eval]) (fun w1 hw1 => (eqLayer_ok ci di l[i] w1 (((ri.ext he).ext (Ext.drew wr)).ext hw1) (((si.ext he).ext (Ext.drew wr)).ext hw1) hb).mono fun e w3 h => ⟨_,h.1,h.2,rfl⟩) ?_;rintro u w3 _ _ rfl
    simp only [Act.put,jab,pu1,pu2,pu3,pu4,pu5];refine ja3 rfl fun K hK w1 _ => ?_
    go_simp;refine hK _ ?_;clear hK K;refine ja4 ?_;have he' := (he.trans (Ext.drew wr)).trans hwf;clear hwf hp' hq' he;go_wp2;go_roundw
    case rel => exact ⟨i + 1,by omega,by go_num,he'⟩
    case measure => simp [intOf];omega
  · obtain rfl : i = n := by omega
    go_wp2;go_ret;exact ⟨rfl,he⟩
theorem szLayerS_ok : SzOk 30 jbv := by
 intro cs l left w hu hl0 hl1;obtain ⟨p,c,css,rfl,h2,h3,h4,h5,h6,h7⟩ := rep_sl hu;have hle := Nat.le_trans h3 h4;have ht := tot_sl l;have hts := fun i hi => sum_take_le id (l.map (tot jac)) i hi
 generalize hL : l.length = n at *;have HL := hid hL;clear hL;unfold maxLen at hle;generalize hT : tot jbv l = T at *;have HT := hid hT;have Ht := hid ht;clear hT ht;simp only [ofCs,Sh.agg,List.headD_cons,Bool.false_eq_true,if_false]
 by_cases hneg : left - n < 0
 · go_enter Tryz.func30,Tryz.ntmps30
   go_wp2;go_ret;exact ⟨⟨-1,rfl,.inl (by omega)⟩,Ext.refl _⟩
 · go_enter Tryz.func30,Tryz.ntmps30
   go_wp2;go_loopw [1,5] (fun lv iv wr => ∃ (i : Nat) (lf : Int),i ≤ n ∧ iv = .int .i64 i ∧ lv = .int .i64 lf ∧ 0 ≤ lf ∧ lf ≤ 1048576 ∧ Hid (lf = left - n - (((l.map (tot jac)).take i).sum : Nat)) ∧ Ext w wr) (fun _ iv _ => n - (intOf iv).toNat)
   case atStart => exact ⟨0,left - n,by omega,rfl,rfl,by omega,by omega,by unfold Hid;simp,Ext.refl w⟩
   case round =>
    obtain ⟨i,lf,hi,rfl,rfl,hf0,hf1,Hlf,he⟩ := hrel
    by_cases hlt : i < n
    · have hp' := h2.ext he
      have hil : i < l.length := by rw [HL.out];exact hlt
      obtain ⟨ci,hci,ri⟩ := h5.get i l[i] (by simp);have hs1 := h2.some_of h6 (by decide) (show 0 < css.length by omega);go_wp2_with (refine jah (s := jac) (j := i) rfl rfl rfl rfl (fun _ => rfl) rfl rfl rfl hp' h6 h7 hlt hs1 hci ?_);refine (szLayer_ok ci l[i] lf _ (ri.ext he) hf0 hf1).mono ?_;rintro e w1 ⟨⟨r,rfl,hr⟩,e1⟩
      by_cases hrn : r < 0
      · go_wp2
        go_ret;exact ⟨⟨-1,rfl,.inl (by omega)⟩,he.trans e1⟩
      · have hr' : r = lf - (tot jac l[i] : Int) := by rcases hr with h | h;exact absurd h hrn;exact h.1
        have Hr := hid hr';have hr1 : r ≤ 1048576 := by omega
        clear hr hr';go_wp2;go_roundw
        case rel =>
         refine ⟨i + 1,r,by omega,by go_num,rfl,by omega,hr1,?_,he.trans e1⟩
         have h9 : ((l.map (tot jac)).take (i + 1)).sum = ((l.map (tot jac)).take i).sum + tot jac l[i] := by
          rw [List.take_add_one,List.sum_append,List.getElem?_map,List.getElem?_eq_getElem hil];simp
         rw [Hid,h9,Hr.out,Hlf.out];omega
        case measure => simp [intOf];omega
    · obtain rfl : i = n := by omega
      go_wp2;go_ret;refine ⟨⟨lf,rfl,.inr ⟨?_,hf0⟩⟩,he⟩;have h8 := Hlf.out;rw [List.take_of_length_le (by rw [List.length_map,HL.out];exact Nat.le_refl _)] at h8;have := Ht.out;omega
theorem toLayerS_ok : ToOk 33 jbv := by
 intro cs l w hu hn;obtain ⟨p,c,css,rfl,h2,h3,h4,h5,h6,h7⟩ := rep_sl hu;have hle := Nat.le_trans (tot_len l) hn;generalize hL : l.length = n at *;have HL := hid hL;clear hL;simp only [ofCs,Sh.agg,List.headD_cons,Bool.false_eq_true,if_false];go_enter Tryz.func33,Tryz.ntmps33;go_wp2_with (refine wl_make w.heap.size n rfl rfl rfl rfl (by unfold maxLen;omega) (by omega) (Nat.le_refl _) ?_;intro g w1 own1 e1);have hg := (own_B own1).1;obtain ⟨us0,hu0,hu1,hu2⟩ := made_rows (z := (.agg #[.int .i64 0,.int .i64 0,.int .i64 0,.slice none 0 0,.slice none 0 0])) (s := Sh.sz jac) n rfl;have own2 : jbg w1 (some ⟨g,0,none⟩) n n us0.flatten := by rw [hu0];exact jdk own1
 go_loopw [4] (fun iv wr => ∃ (i : Nat) (us : List (List Value)) (bss : List (List Nat)),i ≤ n ∧ iv = .int .i64 i ∧ us.length = n ∧ (∀ c ∈ us,c.length = Sh.sz jac) ∧ jbg wr (some ⟨g,0,none⟩) n n us.flatten ∧ Hid (jc2 wr jac (us.take i) bss (l.take i)) ∧ Hid (bss.flatten.Nodup) ∧ Hid (∀ b ∈ bss.flatten,w.heap.size ≤ b ∧ b ≠ g) ∧ Ext w wr ∧ g < wr.heap.size) (fun iv _ => n - (intOf iv).toNat)
 case atStart => exact ⟨0,us0,[],by omega,rfl,hu1,hu2,own2,⟨by simp,by simp,fun i cs bs d h => by simp at h⟩,by simp [Hid],by simp [Hid],e1,(own_B own1).2⟩
 case round =>
  clear own1 own2 e1 hu0 hu1 hu2;obtain ⟨i,us,bss,hi,rfl,hul,hall,own1,Hes,Hnd,Hlo,e1,hgl⟩ := hrel
  by_cases hlt : i < n
  · have hcw := h2.ext e1
    have hil : i < l.length := by rw [HL.out];exact hlt
    obtain ⟨ci,hci,ri⟩ := h5.get i l[i] (by simp);have hs1 := h2.some_of h6 (by decide) (show 0 < css.length by omega);have hb := Nat.le_trans (Nat.le_trans (Nat.le_add_right _ _) (tot_get l i hil)) hn;go_wp2_with (refine jah (s := jac) (j := i) rfl rfl rfl rfl (fun _ => rfl) rfl rfl rfl hcw h6 h7 hlt hs1 hci ?_);refine (toLayer_ok ci l[i] _ (ri.ext e1) hb).mono ?_;rintro e w2 ⟨di,bs,rfl,ow,nd,lo,e2⟩
    have own2 := own1.chg (.of_ext e2) (S := fun _ => False) (fun _ _ h => h);have hdl := ow.rep.size;have hd1 := ow.rep.one;go_wp2_with (first | (refine wl_idxE (s := Sh.sz jac) rfl rfl rfl rfl rfl rfl hlt ?_) | (refine wl_storeE (s := jac) (cs := di) rfl rfl rfl rfl own2 hall (by omega) hdl (by decide) hd1 ?_;intro w3 own3 ch3));have hgb : ∀ b ∈ bs,¬ b ∈ jak (some ⟨g,0,none⟩) := fun b hb h => by have := lo b hb;simp [jak] at h;omega
    have lt1 : ∀ b ∈ bss.flatten,b < wr.heap.size := fun b hb => by
     obtain ⟨bj,hm,hbj⟩ := List.mem_flatten.1 hb;obtain ⟨j,hj,rfl⟩ := List.mem_iff_getElem.1 hm;have k1 := Hes.out.1;have k2 := Hes.out.2.1;exact (Hes.out.2.2 j ((us.take i)[j]'(by omega)) bss[j] ((l.take i)[j]'(by omega)) (List.getElem?_eq_getElem _) (List.getElem?_eq_getElem _) (List.getElem?_eq_getElem _)).lt b hbj
    have es3 : jc2 w3 jac (us.take i) bss (l.take i) := (Hes.out.chg (.of_ext e2) (S := fun _ => False) (fun _ _ h => h)).chg ch3 fun b hb h => by simp [jak] at h;exact (Hlo.out b hb).2 h
    have ow3 : Own w3 jac di l[i] bs := ow.chg ch3 hgb;go_roundw
    case rel =>
     refine ⟨i + 1,us.set i di,bss ++ [bs],by omega,by go_num,by rw [List.length_set];exact hul,all_set hall hdl,own3,?_,?_,?_,?_,?_⟩
     · rw [take_set_succ (by omega),List.take_add_one,List.getElem?_eq_getElem hil]
       exact es3.snoc ow3
     · unfold Hid
       rw [List.flatten_append,List.flatten_cons,List.flatten_nil,List.append_nil];exact nodup_app Hnd.out nd lt1 lo
     · intro b hb
       rw [List.flatten_append,List.flatten_cons,List.flatten_nil,List.append_nil,List.mem_append] at hb;rcases hb with hb | hb
       · exact Hlo.out b hb
       · have := lo b hb;have := e1.size;exact ⟨by omega,by omega⟩
     · exact (e1.trans e2).chg ch3 fun b hb => by simp [jak] at hb;omega
     · have := ch3.size;have := e2.size;omega
    case measure => simp [intOf];omega
  · obtain rfl : i = n := by omega
    go_wp2;go_ret;have k1 := Hes.out;rw [List.take_of_length_le (by omega),List.take_of_length_le (by rw [HL.out];exact Nat.le_refl _)] at k1;have k2 := HL.out;refine ⟨_,g :: bss.flatten,rfl,own_sl.2 ⟨some ⟨g,0,none⟩,i,us,bss,by first | (rw [k2];done) | (rw [k2];rfl),by rw [k2];exact own1,by omega,by unfold maxLen;omega,k1,rfl⟩,?_,?_,e1⟩
    · rw [List.nodup_cons];exact ⟨fun h => (Hlo.out g h).2 rfl,Hnd.out⟩
    · intro b hb;rcases List.mem_cons.1 hb with rfl | hb
      · exact hg
      · exact (Hlo.out b hb).1
theorem markLayerS_ok : MarkOk 40 jbv := by
 intro cs l bs k w hu hnd hk0 hk;obtain ⟨p,c,css0,bss,rfl,h2,h3,h4,h5,rfl⟩ := own_sl.1 hu;have hle := Nat.le_trans h3 h4;have hk' : k + 64 * (tot (.sl jac) l : Int) ≤ 68719476736 := hk;have h6 := h5.all;have h7 := h5.1;obtain ⟨nd1,nd2,nd3,nd4⟩ := nodup_split hnd;generalize hL : l.length = n at *;have HL := hid hL;clear hL hu;unfold maxLen at hle;simp only [ofCs,Sh.agg,List.headD_cons,Bool.false_eq_true,if_false];go_enter Tryz.func40,Tryz.ntmps40;go_wp2;go_loopw [1,5] (fun kv iv wr => ∃ (i : Nat) (css : List (List Value)),i ≤ n ∧ iv = .int .i64 i ∧ kv = .int .i64 (mkK jac l k i) ∧ jbg wr p n c css.flatten ∧ Hid (jc2 wr jac css bss (mkTo jac l k i)) ∧ Chg (fun b => b ∈ jak p ++ bss.flatten) w wr) (fun _ iv _ => n - (intOf iv).toNat)
 case atStart => exact ⟨0,css0,by omega,rfl,by rw [mkK_zero],h2,by rw [mkTo_zero];exact h5,Chg.refl _ _⟩
 case round =>
  clear h2 h5 h6 h7;obtain ⟨i,css,hi,rfl,rfl,own0,H5,hch⟩ := hrel;have h6 := H5.out.all;have h7 : css.length = n := by have := H5.out.1;rw [length_mkTo,HL.out] at this;exact this
  by_cases hlt : i < n
  · have hil : i < l.length := by rw [HL.out];exact hlt
    obtain ⟨b1,b2⟩ := mkK_bd jac (by decide) l k i hil;obtain ⟨k1,k2⟩ := mk_succ jac l k i hil;have hbl : bss.length = n := by have := H5.out.2.1;rw [length_mkTo,HL.out] at this;exact this
    have hci : css[i]? = some css[i] := by simp
    have hbi : bss[i]? = some bss[i] := by simp
    have ow := H5.out.2.2 i css[i] bss[i] l[i] hci hbi (mkTo_get _ _ _ _ hil);have hs1 := own0.cs.some_of h6 (by decide) (show 0 < css.length by omega);have ndi := flat_nodup nd2 hbi;have hin : ∀ b ∈ bss[i],b ∈ bss.flatten := fun b hb => List.mem_flatten.2 ⟨_,List.getElem_mem _,hb⟩
    have hap : ∀ j bj,j ≠ i → bss[j]? = some bj → ∀ b ∈ bj,b ∉ bss[i] := fun j bj hj hbj => flat_apart nd2 hbi hbj hj
    have K1 := hid k1;have K2 := hid k2;clear k1 k2;generalize css[i] = ci at *;generalize bss[i] = bi at *;generalize l[i] = d at *;generalize mkK jac l k i = ki at *;obtain ⟨a1,a2,a3,a4,a5,au⟩ := d;obtain ⟨_,_,_,_,rfl,⟨rfl,rfl⟩,⟨_,_,_,_,rfl,⟨rfl,rfl⟩,⟨_,_,_,_,rfl,⟨rfl,rfl⟩,⟨_,_,ba4,_,rfl,owa4,⟨_,_,ba5,_,rfl,owa5,⟨rfl,rfl⟩,rfl⟩,rfl⟩,rfl⟩,rfl⟩,rfl⟩ := ow;obtain ⟨pa4,ca4,rfl,hla4⟩ := jbb owa4.rep;obtain ⟨pa5,ca5,rfl,hla5⟩ := jbb owa5.rep;simp only [List.cons_append,List.nil_append,List.append_nil] at hci hbi ndi hin hap;obtain ⟨nd_1,ndi1,ap1,aq1⟩ := nodup_split ndi;have nd_2 := ndi1;have in_1 : ∀ b ∈ ba4,b ∈ bss.flatten := fun b hb => hin b (by simp [hb])
    have in_2 : ∀ b ∈ ba5,b ∈ bss.flatten := fun b hb => hin b (by simp [hb])
    have B1 := fun kk => mkV_bd (.sl .flt) (by decide) a4 kk
    have B2 := fun kk => mkV_bd (.sl .flt) (by decide) a5 kk
    have htot : tot jac (a1,a2,a3,a4,a5,au) = tot (.sl .flt) a4 + tot (.sl .flt) a5 := by simp only [tot];omega
    rw [htot] at b2;clear htot
    have hset : css.set i [.int .i64 a1,.int .i64 a2,.int .i64 a3,.slice pa4 (List.length a4) ca4,.slice pa5 (List.length a5) ca5] = css := by
     obtain ⟨hi9,he9⟩ := List.getElem?_eq_some_iff.1 hci;rw [← he9];exact List.set_getElem_self _
    have own_0 : jbg wr p n c (css.set i [.int .i64 a1,.int .i64 a2,.int .i64 a3,.slice pa4 (List.length a4) ca4,.slice pa5 (List.length a5) ca5]).flatten := by rw [hset];exact own0
    have owa4_0 := owa4;have owa5_0 := owa5;have hall_0 : ∀ x ∈ css.set i [.int .i64 a1,.int .i64 a2,.int .i64 a3,.slice pa4 (List.length a4) ca4,.slice pa5 (List.length a5) ca5],x.length = Sh.sz jac := all_set h6 rfl;have hlen_0 : (css.set i [.int .i64 a1,.int .i64 a2,.int .i64 a3,.slice pa4 (List.length a4) ca4,.slice pa5 (List.length a5) ca5]).length = n := (by rw [List.length_set];exact h7);have hget_0 : (css.set i [.int .i64 a1,.int .i64 a2,.int .i64 a3,.slice pa4 (List.length a4) ca4,.slice pa5 (List.length a5) ca5])[i]? = some [.int .i64 a1,.int .i64 a2,.int .i64 a3,.slice pa4 (List.length a4) ca4,.slice pa5 (List.length a5) ca5] := List.getElem?_set_self (by omega)
    go_wp2_with (first
     | ((with_reducible (show wpList _ _ _ (Oper.mk _ (Op.indexAddr _ _ _) _ _ _ _ :: Oper.mk _ (Op.fieldAddr _ _ _) _ _ _ _ :: _) _ _));refine wl_stField (f := 0) (off := 0) (j := i) (u := .int .i64 (ki)) rfl rfl rfl rfl rfl rfl (fun _ => rfl) (fun _ _ => rfl) fo_implLayer_0 rfl rfl rfl (fun _ _ => rfl) rfl own_0 hall_0 hlen_0 hlt (by decide) hget_0 ?_;intro w1 own_1' ch1;have own_1 : jbg w1 p n c (css.set i [.int .i64 (ki),.int .i64 a2,.int .i64 a3,.slice pa4 (List.length a4) ca4,.slice pa5 (List.length a5) ca5]).flatten := (by first | exact own_1' | (rw [List.set_set] at own_1';exact own_1'));have owa4_1 := owa4_0.chg ch1 (fun b hb h => nd4 b (in_1 b hb) h);have owa5_1 := owa5_0.chg ch1 (fun b hb h => nd4 b (in_2 b hb) h);have hall_1 : ∀ x ∈ css.set i [.int .i64 (ki),.int .i64 a2,.int .i64 a3,.slice pa4 (List.length a4) ca4,.slice pa5 (List.length a5) ca5],x.length = Sh.sz jac := all_set h6 rfl;have hlen_1 : (css.set i [.int .i64 (ki),.int .i64 a2,.int .i64 a3,.slice pa4 (List.length a4) ca4,.slice pa5 (List.length a5) ca5]).length = n := (by rw [List.length_set];exact h7);have hget_1 : (css.set i [.int .i64 (ki),.int .i64 a2,.int .i64 a3,.slice pa4 (List.length a4) ca4,.slice pa5 (List.length a5) ca5])[i]? = some [.int .i64 (ki),.int .i64 a2,.int .i64 a3,.slice pa4 (List.length a4) ca4,.slice pa5 (List.length a5) ca5] := List.getElem?_set_self (by omega))
     | ((with_reducible (show wpList _ _ _ (Oper.mk _ (Op.indexAddr _ _ _) _ _ _ _ :: Oper.mk _ (Op.fieldAddr _ _ _) _ _ _ _ :: _) _ _));refine wl_stField (f := 1) (off := 1) (j := i) (u := .int .i64 (ki + 1)) rfl rfl rfl rfl rfl rfl (fun _ => rfl) (fun _ _ => rfl) jb5 rfl rfl rfl (fun _ _ => rfl) rfl own_1 hall_1 hlen_1 hlt (by decide) hget_1 ?_;intro w2 own_2' ch2;have own_2 : jbg w2 p n c (css.set i [.int .i64 (ki),.int .i64 (ki + 1),.int .i64 a3,.slice pa4 (List.length a4) ca4,.slice pa5 (List.length a5) ca5]).flatten := (by first | exact own_2' | (rw [List.set_set] at own_2';exact own_2'));have owa4_2 := owa4_1.chg ch2 (fun b hb h => nd4 b (in_1 b hb) h);have owa5_2 := owa5_1.chg ch2 (fun b hb h => nd4 b (in_2 b hb) h);have hall_2 : ∀ x ∈ css.set i [.int .i64 (ki),.int .i64 (ki + 1),.int .i64 a3,.slice pa4 (List.length a4) ca4,.slice pa5 (List.length a5) ca5],x.length = Sh.sz jac := all_set h6 rfl;have hlen_2 : (css.set i [.int .i64 (ki),.int .i64 (ki + 1),.int .i64 a3,.slice pa4 (List.length a4) ca4,.slice pa5 (List.length a5) ca5]).length = n := (by rw [List.length_set];exact h7);have hget_2 : (css.set i [.int .i64 (ki),.int .i64 (ki + 1),.int .i64 a3,.slice pa4 (List.length a4) ca4,.slice pa5 (List.length a5) ca5])[i]? = some [.int .i64 (ki),.int .i64 (ki + 1),.int .i64 a3,.slice pa4 (List.length a4) ca4,.slice pa5 (List.length a5) ca5] := List.getElem?_set_self (by omega))
     | ((with_reducible (show wpList _ _ _ (Oper.mk _ (Op.indexAddr _ _ _) _ _ _ _ :: Oper.mk _ (Op.fieldAddr _ _ _) _ _ _ _ :: _) _ _));refine wl_stField (f := 2) (off := 2) (j := i) (u := .int .i64 (ki + 1 + 1)) rfl rfl rfl rfl rfl rfl (fun _ => rfl) (fun _ _ => rfl) jbx rfl rfl rfl (fun _ _ => rfl) rfl own_2 hall_2 hlen_2 hlt (by decide) hget_2 ?_;intro w3 own_3' ch3;have own_3 : jbg w3 p n c (css.set i [.int .i64 (ki),.int .i64 (ki + 1),.int .i64 (ki + 1 + 1),.slice pa4 (List.length a4) ca4,.slice pa5 (List.length a5) ca5]).flatten := (by first | exact own_3' | (rw [List.set_set] at own_3';exact own_3'));have owa4_3 := owa4_2.chg ch3 (fun b hb h => nd4 b (in_1 b hb) h);have owa5_3 := owa5_2.chg ch3 (fun b hb h => nd4 b (in_2 b hb) h);have hall_3 : ∀ x ∈ css.set i [.int .i64 (ki),.int .i64 (ki + 1),.int .i64 (ki + 1 + 1),.slice pa4 (List.length a4) ca4,.slice pa5 (List.length a5) ca5],x.length = Sh.sz jac := all_set h6 rfl;have hlen_3 : (css.set i [.int .i64 (ki),.int .i64 (ki + 1),.int .i64 (ki + 1 + 1),.slice pa4 (List.length a4) ca4,.slice pa5 (List.length a5) ca5]).length = n := (by rw [List.length_set];exact h7);have hget_3 : (css.set i [.int .i64 (ki),.int .i64 (ki + 1),.int .i64 (ki + 1 + 1),.slice pa4 (List.length a4) ca4,.slice pa5 (List.length a5) ca5])[i]? = some [.int .i64 (ki),.int .i64 (ki + 1),.int .i64 (ki + 1 + 1),.slice pa4 (List.length a4) ca4,.slice pa5 (List.length a5) ca5] := List.getElem?_set_self (by omega))
     | ((with_reducible (show wpList _ _ _ (Oper.mk _ (Op.indexAddr _ _ _) _ _ _ _ :: Oper.mk _ (Op.fieldAddr _ _ _) _ _ _ _ :: _) _ _));refine wl_ldField (f := 3) (off := 3) (j := i) rfl rfl rfl rfl rfl rfl (fun _ => rfl) (fun _ _ => rfl) fo_implLayer_3 rfl rfl rfl own_3.cs hall_3 hlen_3 hlt hs1 hget_3 rfl ?_)
     )
    have Bq1 := B1 (ki + 1 + 1 + 1);obtain ⟨kz1,hkz1⟩ : ∃ z,z = (mkV (.sl .flt) a4 (ki + 1 + 1 + 1)).2 := ⟨_,rfl⟩;rw [← hkz1] at Bq1;have HZ1 := hid hkz1;clear hkz1;refine (jde [.slice pa4 (List.length a4) ca4] a4 ba4 (ki + 1 + 1 + 1) _ owa4_3 nd_1 (by omega) (by omega)).mono ?_;rintro e w4 ⟨rfl,owa4_4,ch4⟩
    rw [← HZ1.out];have own_4 := own_3.chg ch4 (fun b hb h => nd3 b hb (in_1 b h));have owa5_4 := owa5_3.chg ch4 (fun b hb h => aq1 b (by simp [hb]) h);have hz1 : 0 ≤ kz1 := by omega
    have hall_4 : ∀ x ∈ css.set i [.int .i64 (ki),.int .i64 (ki + 1),.int .i64 (ki + 1 + 1),.slice pa4 (List.length a4) ca4,.slice pa5 (List.length a5) ca5],x.length = Sh.sz jac := all_set h6 rfl;have hlen_4 : (css.set i [.int .i64 (ki),.int .i64 (ki + 1),.int .i64 (ki + 1 + 1),.slice pa4 (List.length a4) ca4,.slice pa5 (List.length a5) ca5]).length = n := (by rw [List.length_set];exact h7);have hget_4 : (css.set i [.int .i64 (ki),.int .i64 (ki + 1),.int .i64 (ki + 1 + 1),.slice pa4 (List.length a4) ca4,.slice pa5 (List.length a5) ca5])[i]? = some [.int .i64 (ki),.int .i64 (ki + 1),.int .i64 (ki + 1 + 1),.slice pa4 (List.length a4) ca4,.slice pa5 (List.length a5) ca5] := List.getElem?_set_self (by omega)
    go_wp2_with (first
     | ((with_reducible (show wpList _ _ _ (Oper.mk _ (Op.indexAddr _ _ _) _ _ _ _ :: Oper.mk _ (Op.fieldAddr _ _ _) _ _ _ _ :: _) _ _));refine wl_ldField (f := 4) (off := 4) (j := i) rfl rfl rfl rfl rfl rfl (fun _ => rfl) (fun _ _ => rfl) fo_implLayer_4 rfl rfl rfl own_4.cs hall_4 hlen_4 hlt hs1 hget_4 rfl ?_)
     )
    have Bq2 := B2 (kz1);obtain ⟨kz2,hkz2⟩ : ∃ z,z = (mkV (.sl .flt) a5 (kz1)).2 := ⟨_,rfl⟩;rw [← hkz2] at Bq2;have HZ2 := hid hkz2;clear hkz2;refine (jde [.slice pa5 (List.length a5) ca5] a5 ba5 (kz1) _ owa5_4 nd_2 (by omega) (by omega)).mono ?_;rintro e w5 ⟨rfl,owa5_5,ch5⟩
    rw [← HZ2.out];have own_5 := own_4.chg ch5 (fun b hb h => nd3 b hb (in_2 b h));have owa4_5 := owa4_4.chg ch5 (fun b hb h => ap1 b hb (by simp [h]));have hz2 : 0 ≤ kz2 := by omega
    have hall_5 : ∀ x ∈ css.set i [.int .i64 (ki),.int .i64 (ki + 1),.int .i64 (ki + 1 + 1),.slice pa4 (List.length a4) ca4,.slice pa5 (List.length a5) ca5],x.length = Sh.sz jac := all_set h6 rfl;have hlen_5 : (css.set i [.int .i64 (ki),.int .i64 (ki + 1),.int .i64 (ki + 1 + 1),.slice pa4 (List.length a4) ca4,.slice pa5 (List.length a5) ca5]).length = n := (by rw [List.length_set];exact h7);have hget_5 : (css.set i [.int .i64 (ki),.int .i64 (ki + 1),.int .i64 (ki + 1 + 1),.slice pa4 (List.length a4) ca4,.slice pa5 (List.length a5) ca5])[i]? = some [.int .i64 (ki),.int .i64 (ki + 1),.int .i64 (ki + 1 + 1),.slice pa4 (List.length a4) ca4,.slice pa5 (List.length a5) ca5] := List.getElem?_set_self (by omega)
    have ow9 : Own w5 jac [.int .i64 (ki),.int .i64 (ki + 1),.int .i64 (ki + 1 + 1),.slice pa4 (List.length a4) ca4,.slice pa5 (List.length a5) ca5] (mkE jac (a1,a2,a3,a4,a5,au) ki).1 ([] ++ ([] ++ ([] ++ (ba4 ++ (ba5 ++ ([])))))) := by
     have g2 := HZ2.out;subst g2;have g1 := HZ1.out;subst g1;exact ⟨[.int .i64 (ki)],[.int .i64 (ki + 1),.int .i64 (ki + 1 + 1),.slice pa4 (List.length a4) ca4,.slice pa5 (List.length a5) ca5],[],([] ++ ([] ++ (ba4 ++ (ba5 ++ ([]))))),rfl,⟨rfl,rfl⟩,⟨[.int .i64 (ki + 1)],[.int .i64 (ki + 1 + 1),.slice pa4 (List.length a4) ca4,.slice pa5 (List.length a5) ca5],[],([] ++ (ba4 ++ (ba5 ++ ([])))),rfl,⟨rfl,rfl⟩,⟨[.int .i64 (ki + 1 + 1)],[.slice pa4 (List.length a4) ca4,.slice pa5 (List.length a5) ca5],[],(ba4 ++ (ba5 ++ ([]))),rfl,⟨rfl,rfl⟩,⟨[.slice pa4 (List.length a4) ca4],[.slice pa5 (List.length a5) ca5],ba4,(ba5 ++ ([])),rfl,owa4_5,⟨[.slice pa5 (List.length a5) ca5],[],ba5,([]),rfl,owa5_5,⟨rfl,rfl⟩,rfl⟩,rfl⟩,rfl⟩,rfl⟩,rfl⟩
    simp only [List.nil_append,List.append_nil] at ow9;have chT : Chg (fun b => b ∈ jak p ++ (ba4 ++ (ba5))) wr w5 := Chg.trans (Chg.trans (Chg.trans (Chg.trans ((ch1.mono fun b hb => List.mem_append.2 (.inl hb))) (ch2.mono fun b hb => List.mem_append.2 (.inl hb))) (ch3.mono fun b hb => List.mem_append.2 (.inl hb))) (ch4.mono fun b hb => List.mem_append.2 (.inr (by simp [hb])))) (ch5.mono fun b hb => List.mem_append.2 (.inr (by simp [hb])))
    have es2 := H5.out.upd chT hbi (fun j bj hj hbj b hb hx => by
     rcases List.mem_append.1 hx with hx | hx
     · exact nd4 b (List.mem_flatten.2 ⟨bj,List.mem_of_getElem? hbj,hb⟩) hx
     · exact hap j bj hj hbj b hb hx) ow9
    have hc2 := hch.trans (chT.mono fun b hb => by
     rcases List.mem_append.1 hb with hx | hx
     · exact List.mem_append.2 (.inl hx)
     · exact List.mem_append.2 (.inr (hin b hx)))
    go_wp2;go_roundw
    case rel => exact ⟨i + 1,_,by omega,by go_num,by rw [K1.out,HZ2.out,HZ1.out];rfl,own_5,by rw [K2.out];exact es2,hc2⟩
    case measure => simp [intOf];omega
  · obtain rfl : i = n := by omega
    go_wp2;go_ret;have k1 := HL.out;have k3 : mkTo jac l k i = (mkV jbv l k).1 := by rw [← k1];exact mkTo_all _ l k
    have k4 : mkK jac l k i = (mkV jbv l k).2 := by rw [← k1];exact mkK_all _ l k
    have k5 : (mkV jbv l k).1.length = i := by rw [← k3,length_mkTo];exact k1
    refine ⟨by rw [k4];rfl,own_sl.2 ⟨p,c,css,bss,?_,by rw [k5];exact own0,by rw [k5];exact h3,h4,by rw [← k3];exact H5.out,rfl⟩,hch⟩;rw [k5]
end Go.Proofs.YtlimabbeaimdgaaGreat
