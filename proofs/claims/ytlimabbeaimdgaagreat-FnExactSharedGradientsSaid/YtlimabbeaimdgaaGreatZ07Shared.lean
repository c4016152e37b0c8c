/- A part of the proofs: HModel, Mod, App, Law, Open, Things, Par. -/
import Derived.Test.YtlimabbeaimdgaaGreatZ04Shared
import Derived.Test.YtlimabbeaimdgaaGreatZ06Shared
import Derived.Test.YtlimabbeaimdgaaGreatZ05Shared
import Derived.Test.YtlimabbeaimdgaaGreatZ03Shared
import Derived.ProofKit
import Derived.Test.YtlimabbeaimdgaaGreatZ02Shared
import Derived.Deep.Slices
import Derived.WideShapes
import Derived.Laws.Cover2
set_option linter.unusedSimpArgs false
set_option linter.unusedVariables false
set_option maxRecDepth 100000
set_option maxHeartbeats 16000000
namespace Go.Proofs.YtlimabbeaimdgaaGreat
open Go.RowKit
abbrev jap : Sh := .pr jbv (.un)
instance elStModelimpl : ElTy Tryz.prog 35 jap := ⟨by kernel_rfl,by kernel_rfl⟩
instance elStModellaws : ElTy Tryz.prog 24 jap := ⟨by kernel_rfl,by kernel_rfl⟩
theorem eqModel_ok : EqOk 14 jap := by
 intro cs cs' d w hu hv hn;obtain ⟨a1,au⟩ := d;obtain ⟨_,_,rfl,ha1,rfl⟩ := hu;obtain ⟨pa1,ca1,rfl,hla1⟩ := jbb ha1;obtain ⟨_,_,rfl,hqa1,rfl⟩ := hv;obtain ⟨pqa1,cqa1,rfl,hlqa1⟩ := jbb hqa1;have hba1 : tot jbv a1 ≤ 1048576 := by simp only [tot] at hn ⊢;omega
 simp only [ofCs,Sh.agg,List.cons_append,List.nil_append,if_true];go_enter Tryz.func14,Tryz.ntmps14;go_wp2_with fail;refine (eqLayerS_ok [.slice pa1 (List.length a1) ca1] [.slice pqa1 (List.length a1) cqa1] a1 _ (Rep.ext (w := w) ?_ (ha1 : Rep w jbv [.slice pa1 (List.length a1) ca1] a1)) (Rep.ext (w := w) ?_ (hqa1 : Rep w jbv [.slice pqa1 (List.length a1) cqa1] a1)) hba1).mono ?_
 · (repeat (first | (with_reducible first | exact Ext.refl _ | assumption) | ((with_reducible refine Ext.setCell ?_ ?_ _);rotate_left;focus (first | (simp;done) | (simp;omega))) | (with_reducible first | refine px1 ?_ _ | refine px2 ?_ | refine Ext.trans ?_ (by assumption))))
 · (repeat (first | (with_reducible first | exact Ext.refl _ | assumption) | ((with_reducible refine Ext.setCell ?_ ?_ _);rotate_left;focus (first | (simp;done) | (simp;omega))) | (with_reducible first | refine px1 ?_ _ | refine px2 ?_ | refine Ext.trans ?_ (by assumption))))
 rintro e w1 ⟨rfl,e1⟩
 have x1_0 := e1.cellOf (b := w.heap.size) (by first | (simp;done) | (simp;omega));have x1_1 := e1.cellOf (b := w.heap.size + 1) (by first | (simp;done) | (simp;omega));have y1 := e1.size;go_wp2;go_ret;refine ⟨rfl,?_⟩
 (repeat (first | (with_reducible first | exact Ext.refl _ | assumption) | ((with_reducible refine Ext.setCell ?_ ?_ _);rotate_left;focus (first | (simp;done) | (simp;omega))) | (with_reducible first | refine px1 ?_ _ | refine px2 ?_ | refine Ext.trans ?_ (by assumption))))
theorem szModel_ok : SzOk 6 jap := by
 intro cs d left w hu hl0 hl1;obtain ⟨a1,au⟩ := d;obtain ⟨_,_,rfl,ha1,rfl⟩ := hu;obtain ⟨pa1,ca1,rfl,hla1⟩ := jbb ha1;simp only [ofCs,Sh.agg,List.cons_append,List.nil_append,if_true];generalize hT : tot jap (a1,au) = T;have HT := hid hT;clear hT;go_enter Tryz.func6,Tryz.ntmps6;go_wp2_with fail;refine (szLayerS_ok [.slice pa1 (List.length a1) ca1] a1 left _ (Rep.ext (w := w) ?_ (ha1 : Rep w jbv [.slice pa1 (List.length a1) ca1] a1)) (by omega) (by omega)).mono ?_
 · (repeat (first | (with_reducible first | exact Ext.refl _ | assumption) | ((with_reducible refine Ext.setCell ?_ ?_ _);rotate_left;focus (first | (simp;done) | (simp;omega))) | (with_reducible first | refine px1 ?_ _ | refine px2 ?_ | refine Ext.trans ?_ (by assumption))))
 rintro e w1 ⟨⟨r1,rfl,hr1⟩,e1⟩
 have x1_0 := e1.cellOf (b := w.heap.size) (by first | (simp;done) | (simp;omega));have y1 := e1.size
 by_cases hn1 : r1 < 0
 · go_wp2
   go_ret;refine ⟨⟨-1,rfl,.inl (by omega)⟩,?_⟩
   (repeat (first | (with_reducible first | exact Ext.refl _ | assumption) | ((with_reducible refine Ext.setCell ?_ ?_ _);rotate_left;focus (first | (simp;done) | (simp;omega))) | (with_reducible first | refine px1 ?_ _ | refine px2 ?_ | refine Ext.trans ?_ (by assumption))))
 have hq1 : r1 = left - (tot jbv a1 : Int) := by rcases hr1 with h | h;exact absurd h hn1;exact h.1
 have Hq1 := hid hq1;have hz1 : 0 ≤ r1 := by omega
 have ht1 : r1 ≤ 1048576 := by omega
 clear hr1 hq1;go_wp2;go_ret;refine ⟨⟨_,rfl,.inr ⟨?_,by omega⟩⟩,?_⟩
 · have h0 := HT.out
   simp only [tot] at h0;have h1 := Hq1.out;simp only [tot] at h1;omega
 · (repeat (first | (with_reducible first | exact Ext.refl _ | assumption) | ((with_reducible refine Ext.setCell ?_ ?_ _);rotate_left;focus (first | (simp;done) | (simp;omega))) | (with_reducible first | refine px1 ?_ _ | refine px2 ?_ | refine Ext.trans ?_ (by assumption))))
theorem toModel_ok : ToOk 9 jap := by
 intro cs d w hu hn;obtain ⟨a1,au⟩ := d;obtain ⟨_,_,rfl,ha1,rfl⟩ := hu;obtain ⟨pa1,ca1,rfl,hla1⟩ := jbb ha1;have hba1 : tot jbv a1 ≤ 1048576 := by simp only [tot] at hn ⊢;omega
 simp only [ofCs,Sh.agg,List.cons_append,List.nil_append,if_true];go_enter Tryz.func9,Tryz.ntmps9;go_wp2_with fail;refine (toLayerS_ok [.slice pa1 (List.length a1) ca1] a1 _ (Rep.ext (w := w) ?_ (ha1 : Rep w jbv [.slice pa1 (List.length a1) ca1] a1)) hba1).mono ?_
 · (repeat (first | (with_reducible first | exact Ext.refl _ | assumption) | ((with_reducible refine Ext.setCell ?_ ?_ _);rotate_left;focus (first | (simp;done) | (simp;omega))) | (with_reducible first | refine px1 ?_ _ | refine px2 ?_ | refine Ext.trans ?_ (by assumption))))
 rintro e w1 ⟨cs1,bs1,rfl,owna1,nd1,lo1,e1⟩
 obtain ⟨pqa1,cqa1,rfl,glqa1⟩ := jbb owna1.rep;have hqa1 := owna1.rep;simp only [ofCs,Sh.agg,List.headD_cons,Bool.false_eq_true,if_false];have x1_0 := e1.cellOf (b := w.heap.size) (by first | (simp;done) | (simp;omega));have x1_1 := e1.cellOf (b := w.heap.size + 1) (by first | (simp;done) | (simp;omega));have x1_2 := e1.cellOf (b := w.heap.size + 2) (by first | (simp;done) | (simp;omega));have y1 := e1.size;go_wp2;refine bodyPost_ret (v := .agg #[.slice pqa1 (List.length a1) cqa1]) (by simp [results,Tryz.results9,go_sem,x1_0,x1_1,x1_2,y1]) rfl ?_;generalize hW : World.setCell _ _ _ = W;have eW : Ext w W := by subst hW;(repeat (first | (with_reducible first | exact Ext.refl _ | assumption) | ((with_reducible refine Ext.setCell ?_ ?_ _);rotate_left;focus (first | (simp;done) | (simp;omega))) | (with_reducible first | refine px1 ?_ _ | refine px2 ?_ | refine Ext.trans ?_ (by assumption))))
 have ch1 : Chg (fun b => b < w.heap.size + 3) w1 W := by subst hW;(repeat (first | (with_reducible first | exact Chg.refl _ _ | exact Chg.of_ext (by assumption) | assumption) | ((with_reducible refine Chg.setCell ?_ ?_ _);rotate_left;focus (first | (simp;done) | (simp;omega))) | (with_reducible first | refine Chg.alloc ?_ _ | refine Chg.drew ?_ | refine px3 ?_ (by assumption))))
 have owa1 : Own W jbv [.slice pqa1 (List.length a1) cqa1] a1 bs1 := owna1.chg ch1 (fun b hb => by have := lo1 b hb;simp at this;omega);refine ⟨[.slice pqa1 (List.length a1) cqa1],(bs1 ++ ([])),rfl,(⟨[.slice pqa1 (List.length a1) cqa1],[],bs1,([]),rfl,owa1,⟨rfl,rfl⟩,rfl⟩ : Own W jap [.slice pqa1 (List.length a1) cqa1] (a1,au) _),?_,?_,eW⟩
 · simp only [List.nil_append,List.append_nil]
   exact nd1
 · intro b hb
   simp only [List.nil_append,List.append_nil,List.mem_append] at hb;have := lo1 b hb;simp at this;omega
theorem markModel_ok : MarkOk 16 jap := by
 intro cs d bs k w hu hnd hk0 hk;obtain ⟨a1,au⟩ := d;obtain ⟨_,_,ba1,_,rfl,owa1,⟨rfl,rfl⟩,rfl⟩ := hu;obtain ⟨pa1,ca1,rfl,hla1⟩ := jbb owa1.rep;simp only [List.nil_append,List.append_nil] at hnd;simp only [ofCs,Sh.agg,List.cons_append,List.nil_append,if_true];have htot : tot jap (a1,au) = tot jbv a1 := by simp only [tot];omega
 rw [htot] at hk;clear htot;have B1 := mkV_bd jbv (by decide) a1 k;have nd1 := hnd;have lt1 := owa1.lt;go_enter Tryz.func16,Tryz.ntmps16;go_wp2_with fail;refine (markLayerS_ok [.slice pa1 (List.length a1) ca1] a1 ba1 k _ (Own.ext (w := w) owa1 ?_) nd1 (by omega) (by omega)).mono ?_
 · (repeat (first | (with_reducible first | exact Ext.refl _ | assumption) | ((with_reducible refine Ext.setCell ?_ ?_ _);rotate_left;focus (first | (simp;done) | (simp;omega))) | (with_reducible first | refine px1 ?_ _ | refine px2 ?_ | refine Ext.trans ?_ (by assumption))))
 rintro e w1 ⟨rfl,owa1_1,ch1⟩
 have x1_0 := ch1.cellOf (b := w.heap.size) (by first | (simp;done) | (simp;omega)) (fun h => by have := lt1 _ h;omega);have y1 := ch1.size;have E0 := (fun W0 (_ : Chg (fun b => b ∈ ba1) W0 w1) (h : Ext w W0) => h) _ ch1 (by (repeat (first | (with_reducible first | exact Ext.refl _ | assumption) | ((with_reducible refine Ext.setCell ?_ ?_ _);rotate_left;focus (first | (simp;done) | (simp;omega))) | (with_reducible first | refine px1 ?_ _ | refine px2 ?_ | refine Ext.trans ?_ (by assumption)))));go_wp2;go_ret;exact ⟨rfl,⟨[.slice pa1 (List.length a1) ca1],[],ba1,[],rfl,owa1_1,⟨rfl,rfl⟩,rfl⟩,(Chg.of_ext E0).trans (ch1.mono fun b hb => by simp [hb])⟩
def layD (d : jac.T) : Bool := layB d.1 d.2.1 d.2.2.1 d.2.2.2.1.length d.2.2.2.2.1.length
def layO (d : jac.T) : Int := d.2.2.1
def linkL : Option Int → Int → Bool
 | none,_ => true
 | some o,i => decide (i = o)
def modGo : Option Int → List jac.T → Bool
 | _,[] => true
 | p,d :: l => layD d && (linkL p d.2.1 && modGo (some (layO d)) l)
def modB (l : List jac.T) : Bool := decide (1 ≤ l.length) && (decide (l.length ≤ 6) && modGo none l)
def prevL (l : List jac.T) : Nat → Option Int
 | 0 => none
 | i + 1 => l[i]?.map layO
theorem modGo_at {l : List jac.T} {i : Nat} (hi : i < l.length) (p : Option Int) :
 modGo p (l.drop i) = (layD l[i] && (linkL p l[i].2.1 && modGo (prevL l (i + 1)) (l.drop (i + 1)))) := by
 rw [List.drop_eq_getElem_cons hi];simp [modGo,prevL,hi]
theorem lay_vals {w : World} {cs : List Value} {d : jac.T} (h : Rep w jac cs d) : ∃ pw cw pb cb,cs = [.int .i64 d.1,.int .i64 d.2.1,.int .i64 d.2.2.1,.slice pw d.2.2.2.1.length cw,.slice pb d.2.2.2.2.1.length cb] ∧ d.2.2.2.1.length ≤ maxLen ∧ d.2.2.2.2.1.length ≤ maxLen := by
 obtain ⟨a1,a2,a3,a4,a5,au⟩ := d;obtain ⟨_,_,rfl,rfl,_,_,rfl,rfl,_,_,rfl,rfl,_,_,rfl,h4,_,_,rfl,h5,rfl⟩ := h;obtain ⟨p4,c4,rfl,l4⟩ := jbb h4;obtain ⟨p5,c5,rfl,l5⟩ := jbb h5;exact ⟨p4,c4,p5,c5,rfl,l4,l5⟩
theorem l03Is_any {sp : Option Nat} (bl o' : Nat) (p : Option Addr) (n c : Nat) (l : List jac.T) (css : List (List Value)) (w : World) (f0 : w.cell? ⟨bl,o',sp⟩ = some (.slice p n c)) (hn : l.length = n) (hm : n ≤ maxLen)
 (a2 : Cs w p css.flatten) (a5 : All2 (Rep w jac) css l) (a6 : ∀ c ∈ css,c.length = jac.sz) (a7 : css.length = n) :
 Calls Tryz.prog 90 #[.pointer (some ⟨bl,o',sp⟩)] w (RetB w (modB l)) := by
 unfold maxLen at hm;unfold modB;rw [hn]
 by_cases hn1 : 1 ≤ n
 rotate_left 1
 · rw [decide_eq_false hn1,Bool.false_and]
   clear a2 a5 a6 a7 hn;go_enter Tryz.func90,Tryz.ntmps90;go_wp2;go_ret;exact ⟨rfl,Ext.refl _⟩
 by_cases hn6 : n ≤ 6
 rotate_left 1
 · rw [decide_eq_false hn6,Bool.false_and,Bool.and_false]
   clear a2 a5 a6 a7 hn;go_enter Tryz.func90,Tryz.ntmps90;go_wp2;go_ret;exact ⟨rfl,Ext.refl _⟩
 rw [decide_eq_true hn1,decide_eq_true hn6,Bool.true_and,Bool.true_and];generalize hG : modGo none l = G;have HG := hid hG;have HL := hid hn;clear hG;go_enter Tryz.func90,Tryz.ntmps90;go_wp2;go_loopw [4] (fun iv wr => ∃ (i : Nat),i ≤ n ∧ iv = .int .i64 i ∧ Hid (modGo (prevL l i) (l.drop i) = G) ∧ Ext w wr) (fun iv _ => n - (intOf iv).toNat)
 case atStart => exact ⟨0,by omega,rfl,by simpa [Hid,prevL] using HG.out,Ext.refl w⟩
 case round =>
  obtain ⟨i,hi,rfl,HI,he⟩ := hrel;have g0 := he.cell f0
  by_cases hlt : i < n
  · have hil : i < l.length := by rw [HL.out];exact hlt
    obtain ⟨ci,hci,ri⟩ := a5.get i l[i] (by simp);obtain ⟨pw,cw,pb,cb,rfl,l1,l2⟩ := lay_vals ri;have hst := HI.out;rw [modGo_at hil] at hst;have hs1 := a2.some_of a6 (by decide) (show 0 < css.length by omega);have hp := a2.ext he;have C := hid (fun w1 (hw1 : Ext wr w1) => ja5 (l03Layer_any (sp := (adr p (i * 5)).spot) (adr p (i * 5)).block (adr p (i * 5)).off _ _ _ pw pb _ cw _ cb w1 (fcell hp a6 a7 hlt hci 0 hw1 rfl) (fcell hp a6 a7 hlt hci 1 hw1 rfl) (fcell hp a6 a7 hlt hci 2 hw1 rfl) (fcell hp a6 a7 hlt hci 3 hw1 rfl) (fcell hp a6 a7 hlt hci 4 hw1 rfl) l1 l2));generalize hD : l[i] = d at *;have HD := hid hD;clear hD
    cases hb : layD d
    · have hG : G = false := by rw [← hst,hb];rfl
      subst hG;unfold layD at hb;rw [hb] at C;clear hb hst;obtain ⟨F,hF⟩ : ∃ F : Option Tmp → World → Value → Prop,F = fun _ _ u => u = .bool false := ⟨_,rfl⟩
      have HF := hid hF;have gd := (Ext.drew wr).cell g0;have hpd := hp.ext (Ext.drew wr);clear hF;go_wp2;refine jaf (F := F) (by kernel_rfl) (by kernel_rfl) (by kernel_rfl) ?_;intro wf hwf
      repeat (first
       | ((first | (refine jat rfl ?_) | (refine x_mv rfl rfl rfl ?_) | (refine x_as rfl rfl rfl ?_) | ((with_reducible show gx5);refine x_idx (t := 33) (s := 5) (i := (i : Int)) rfl rfl rfl rfl hs1 (by omega) (by omega) ?_;rw [Int.toNat_natCast]) | ((with_reducible show gx4);refine jam (f := 117) (args := #[.pointer (some (adr p (i * 5)))]) rfl rfl Tryz.func117 rfl (by kernel_rfl) ?_ ?_ ?_;(focus (simp [Act.eval];done));(focus (intro w1 hw1;exact (by rw [HF.out];exact C.out w1 (((Ext.drew _).trans hw1)))));rintro u w3 e3 e4 hu;simp only [HF.out] at hu;subst hu));simp only [Act.put,jab,pu1,pu2,pu3,pu4,pu5])
       | (refine ja3 rfl fun K hK w1 hw1 => ?_;have k0 := hw1.cell (gd);go_simp;refine hK _ ?_;clear hK K k0 hw1 w1))
      refine ja4 ?_;go_wp2;go_ret;exact ⟨rfl,(he.trans (Ext.drew _)).trans hwf⟩
    have hb2 := hb;unfold layD at hb2;rw [hb2] at C;rw [hb,Bool.true_and] at hst;clear hb hb2;rcases Nat.eq_zero_or_pos i with h0 | h0
    · subst h0
      have hst2 : modGo (prevL l 1) (l.drop 1) = G := by rw [← hst];simp [linkL,prevL]
      have Hst := hid hst2;clear hst hst2;obtain ⟨F,hF⟩ : ∃ F : Option Tmp → World → Value → Prop,F = fun _ _ u => u = .bool true := ⟨_,rfl⟩
      have HF := hid hF;have gd := (Ext.drew wr).cell g0;have hpd := hp.ext (Ext.drew wr);clear hF;go_wp2;refine jaf (F := F) (by kernel_rfl) (by kernel_rfl) (by kernel_rfl) ?_;intro wf hwf
      repeat (first
       | ((first | (refine jat rfl ?_) | (refine x_mv rfl rfl rfl ?_) | (refine x_as rfl rfl rfl ?_) | ((with_reducible show gx5);refine x_idx (t := 33) (s := 5) (i := ((0 : Nat) : Int)) rfl rfl rfl rfl hs1 (by omega) (by omega) ?_;rw [Int.toNat_natCast]) | ((with_reducible show gx4);refine jam (f := 117) (args := #[.pointer (some (adr p (0 * 5)))]) rfl rfl Tryz.func117 rfl (by kernel_rfl) ?_ ?_ ?_;(focus (simp [Act.eval];done));(focus (intro w1 hw1;exact (by rw [HF.out];exact C.out w1 (((Ext.drew _).trans hw1)))));rintro u w3 e3 e4 hu;simp only [HF.out] at hu;subst hu));simp only [Act.put,jab,pu1,pu2,pu3,pu4,pu5])
       | (refine ja3 rfl fun K hK w1 hw1 => ?_;have k0 := hw1.cell (gd);go_simp;refine hK _ ?_;clear hK K k0 hw1 w1))
      refine ja4 ?_;go_wp2;go_roundw
      case rel => exact ⟨1,by omega,by go_num,Hst.out,(he.trans (Ext.drew _)).trans hwf⟩
      case measure => simp [intOf];omega
    · obtain ⟨j,rfl⟩ : ∃ j,i = j + 1 := ⟨i - 1,by omega⟩
      obtain ⟨cj,hcj,rj⟩ := a5.get j l[j] (by simp);obtain ⟨qw,dw,qb,db,rfl,_,_⟩ := lay_vals rj;have hlk : linkL (prevL l (j + 1)) d.2.1 = decide (d.2.1 = layO l[j]) := by simp [prevL,linkL,show j < l.length by omega]
      rw [hlk] at hst;have hA : IntKind.i64.wrap (((j + 1 : Nat) : Int) - 1) = (j : Int) := by rw [show ((j + 1 : Nat) : Int) - 1 = (j : Int) by omega];exact ja7 _ (by omega) (by omega)
      have hB : IntKind.i64.wrap ((j : Int) + 1 - 1) = (j : Int) := by rw [show (j : Int) + 1 - 1 = (j : Int) by omega];exact ja7 _ (by omega) (by omega)
      have hC : IntKind.i64.wrap (j : Int) = (j : Int) := ja7 _ (by omega) (by omega);clear hlk
      by_cases hq : d.2.1 = layO l[j]
      · have hst2 : modGo (prevL l (j + 1 + 1)) (l.drop (j + 1 + 1)) = G := by rw [← hst];simp [hq]
        have Hst := hid hst2;have Q := bne_f hq.symm;unfold layO at Q;clear hst hst2 hq;obtain ⟨F,hF⟩ : ∃ F : Option Tmp → World → Value → Prop,F = fun _ _ u => u = .bool true := ⟨_,rfl⟩
        have HF := hid hF;have gd := (Ext.drew wr).cell g0;have hpd := hp.ext (Ext.drew wr);clear hF;go_wp2;refine jaf (F := F) (by kernel_rfl) (by kernel_rfl) (by kernel_rfl) ?_;intro wf hwf
        repeat (first
         | ((first | (refine jat rfl ?_) | (refine x_mv rfl rfl rfl ?_) | (refine x_as rfl rfl rfl ?_) | ((with_reducible show gx6);first | (refine jbu (f := 2) (j := j) (off := 2) rfl rfl (fun _ => rfl) rfl (fun _ _ => rfl) rfl (fun _ => rfl) (fun _ _ => rfl) jbx rfl rfl (by omega) hpd a6 a7 (by omega) hs1 hcj rfl ?_) | (refine jbu (f := 1) (j := (j + 1)) (off := 1) rfl rfl (fun _ => rfl) rfl (fun _ _ => rfl) rfl (fun _ => rfl) (fun _ _ => rfl) jb5 rfl rfl (by omega) hpd a6 a7 hlt hs1 hci rfl ?_)) | ((with_reducible show gx5);refine x_idx (t := 33) (s := 5) (i := ((j + 1 : Nat) : Int)) rfl rfl rfl rfl hs1 (by omega) (by omega) ?_;rw [Int.toNat_natCast]) | ((with_reducible show gx4);refine jam (f := 117) (args := #[.pointer (some (adr p ((j + 1) * 5)))]) rfl rfl Tryz.func117 rfl (by kernel_rfl) ?_ ?_ ?_;(focus (simp [Act.eval];done));(focus (intro w1 hw1;exact (by rw [HF.out];exact C.out w1 (((Ext.drew _).trans hw1)))));rintro u w3 e3 e4 hu;simp only [HF.out] at hu;subst hu));simp only [Act.put,jab,pu1,pu2,pu3,pu4,pu5])
         | (refine ja3 rfl fun K hK w1 hw1 => ?_;have k0 := hw1.cell (gd);go_simp;refine hK _ ?_;clear hK K k0 hw1 w1))
        refine ja4 ?_;go_wp2;go_roundw
        case rel => exact ⟨j + 1 + 1,by omega,by go_num,Hst.out,(he.trans (Ext.drew _)).trans hwf⟩
        case measure => simp [intOf];omega
      · have hG : G = false := by rw [← hst];simp [hq]
        subst hG;have Q := bne_t (fun h => hq h.symm);unfold layO at Q;clear hst hq;obtain ⟨F,hF⟩ : ∃ F : Option Tmp → World → Value → Prop,F = fun _ _ u => u = .bool true := ⟨_,rfl⟩
        have HF := hid hF;have gd := (Ext.drew wr).cell g0;have hpd := hp.ext (Ext.drew wr);clear hF;go_wp2;refine jaf (F := F) (by kernel_rfl) (by kernel_rfl) (by kernel_rfl) ?_;intro wf hwf
        repeat (first
         | ((first | (refine jat rfl ?_) | (refine x_mv rfl rfl rfl ?_) | (refine x_as rfl rfl rfl ?_) | ((with_reducible show gx6);first | (refine jbu (f := 2) (j := j) (off := 2) rfl rfl (fun _ => rfl) rfl (fun _ _ => rfl) rfl (fun _ => rfl) (fun _ _ => rfl) jbx rfl rfl (by omega) hpd a6 a7 (by omega) hs1 hcj rfl ?_) | (refine jbu (f := 1) (j := (j + 1)) (off := 1) rfl rfl (fun _ => rfl) rfl (fun _ _ => rfl) rfl (fun _ => rfl) (fun _ _ => rfl) jb5 rfl rfl (by omega) hpd a6 a7 hlt hs1 hci rfl ?_)) | ((with_reducible show gx5);refine x_idx (t := 33) (s := 5) (i := ((j + 1 : Nat) : Int)) rfl rfl rfl rfl hs1 (by omega) (by omega) ?_;rw [Int.toNat_natCast]) | ((with_reducible show gx4);refine jam (f := 117) (args := #[.pointer (some (adr p ((j + 1) * 5)))]) rfl rfl Tryz.func117 rfl (by kernel_rfl) ?_ ?_ ?_;(focus (simp [Act.eval];done));(focus (intro w1 hw1;exact (by rw [HF.out];exact C.out w1 (((Ext.drew _).trans hw1)))));rintro u w3 e3 e4 hu;simp only [HF.out] at hu;subst hu));simp only [Act.put,jab,pu1,pu2,pu3,pu4,pu5])
         | (refine ja3 rfl fun K hK w1 hw1 => ?_;have k0 := hw1.cell (gd);go_simp;refine hK _ ?_;clear hK K k0 hw1 w1))
        refine ja4 ?_;go_wp2;go_ret;exact ⟨rfl,(he.trans (Ext.drew _)).trans hwf⟩
  · obtain rfl : i = n := by omega
    have hst := HI.out;rw [List.drop_of_length_le (by rw [HL.out];exact Nat.le_refl _)] at hst;have hst2 : G = true := by rw [← hst];simp [modGo]
    subst hst2;go_wp2;go_ret;exact ⟨rfl,he⟩
section
variable {P : Program} {w : World} {ops : Array Oper} {rest : List Oper} {o : Oper} {a : Act} {Q : Exit → Act → World → Prop}
theorem run_append_none (base : Nat) (t ty e : TypeId) (i : TypeInfo) (size : Nat) (ht : P.underlying t = some (.slice e)) (hi : P.info? e = some i)
 (v : Value) (n c : Nat) (xs : List Value) (hown : w.ownsRow base e size v n xs) :
 (Builtin.append_ #[t,t] ty #[v,.slice none 0 c]).run P w = .ok v w := by
 rcases hown.2 with ⟨rfl,rfl⟩ | ⟨g,cap,cur,rfl,_,_,hnc,_⟩
 · simp [Builtin.append_,run_underlying ht,sizeOf,typeInfo,hi,Builtin.lenOf,Builtin.firstCells]
 · simp [Builtin.append_,run_underlying ht,sizeOf,typeInfo,hi,Builtin.lenOf,Builtin.firstCells,hnc,storeCells]
theorem wl_appz {t e s b : Nat} {z : Value} [T : SlTy P t e s z b] {x1 x2 : Operand} {v : Value} {B n m c : Nat} {vs us : List Value} {p : Option Addr}
 (hg : o.guard = none) (ho : o.op = .call { callee := .builtin .append,args := #[x1,x2],argTypes := #[t,t] })
 (hx1 : a.eval x1 = v) (hx2 : a.eval x2 = .slice p m c) (how : w.ownsRow B e s v n vs) (hc : Cs w p us) (hm : us.length = m * s) (hmc : m ≤ c) (h1 : ∀ u ∈ us,u.oneCell' = true)
 (hn : n + m ≤ maxLen) (hb : (n + m) * b ≤ 140737488355328) (hB : B ≤ w.heap.size)
 (h : ∀ v' w',w'.ownsRow B e s v' (n + m) (vs ++ us) → w.grownBy w' v.ownBlock → wpList P ops Q rest (a.put o.dst v') w') : wpList P ops Q (o :: rest) a w := by
 obtain ⟨ti,hi,hzz⟩ := Option.map_eq_some_iff.1 T.inf;simp only [Prod.mk.injEq] at hzz
 cases p with
 | some ad =>
   exact wpList_append_own _ hg x1 x2 t ho B e ti z s b T.und hi hzz.1 hzz.2.1 hzz.2.2 T.zs T.pos v n vs hx1 how ad m c us hx2 hm (fun j u hj => hc.cell j u hj) h1 hn hb hB (fun v' w' h1 h2 _ => h v' w' h1 h2)
 | none =>
   have hus : us = [] := Classical.byContradiction fun hn => by have := hc.isS hn;simp at this
   subst hus
   have hm0 : m = 0 := by
    rcases Nat.eq_zero_or_pos m with h | h
    · exact h
    · have := Nat.mul_pos h T.pos;simp at hm;omega
   subst hm0;refine wpList_plain hg fun K hK' => ?_
   have hrun := run_append_none (P := P) B t o.type e ti s T.und hi v n c vs how;unfold Oper.wp;simp [execOp,ho,resolve,invoke,builtin,hx1,hx2,hrun,Result.andThen];exact hK' _ _ (h v w (by simpa using how) (World.grownBy.refl _ _))
end
end Go.Proofs.YtlimabbeaimdgaaGreat
namespace Go.Proofs.YtlimabbeaimdgaaGreat
open Go.RowKit Go.ChangeShapes Go.WideShapes Go.ChangeAt
theorem own_knob : ownKnob Tryz.prog.godebug = none := by kernel_rfl
theorem laid_out : laidOutB Tryz.prog = true := by kernel_rfl
theorem post_true {H : Type} {enc : TypeId × Value → H} {P : Program} {f : Func} {s : ChangeSpec} {W W' : World} {args : Array Value} {ds : List (DataW H)} {before : List MemPlace} {tb : TypeId}
 (hl : laidOutB P = true) (hvs : s.vars = []) (hrt : f.resultTypes = #[tb]) (hb : P.underlying tb = some .bool)
 (hps : ∀ t ∈ f.params.toList,P.readableRec t = true ∧ t < P.types.size)
 (hfn : s.fn H (ds ++ []) = { results := [.lit (.bool true)],args := ds })
 (hW : DataW.Whole enc P f.params.toList s.vars false W args.toList ds [] before) (he : Ext W W') :
 s.post enc P f false true false false W args (.bool true) W' := by
 obtain ⟨p,q,hA,hV,hpq,hfz,hnd⟩ := hW;have hW' : DataW.Whole enc P f.params.toList s.vars false W args.toList ds [] before := ⟨p,q,hA,hV,hpq,hfz,hnd⟩
 have hq : q = [] := by
  rw [hvs] at hV;exact (trodVars_none hV).2
 subst hq;simp only [List.append_nil] at hpq;subst hpq;refine ⟨ds,[],before,[],before,[],hW',?_,?_,?_,?_,fun h => by cases h⟩
 · rw [hfn,hrt]
   exact trodAll_mk1 (shut_bool hb _)
 · rw [hfn]
   exact stays hl hps hA he.below (fun x hx => by have := hW'.lt x hx;simpa using this)
 · rw [hvs] at hV ⊢
   rw [hfn];exact hV0
 · exact he.below.frame _
where
 hV0 {H : Type} {enc : TypeId × Value → H} {P : Program} {W' : World} {sp : Nat → Bool} : DataW.TrodVars enc P W' sp [] [] [] := rfl
 stays {H : Type} {enc : TypeId × Value → H} {P : Program} {W W' : World} (hl : laidOutB P = true) : ∀ {ts : List TypeId} {vs : List Value} {ds : List (DataW H)} {ps : List MemPlace},
  (∀ t ∈ ts,P.readableRec t = true ∧ t < P.types.size) → DataW.TrodAll enc P W 0 (fun _ => true) true ts vs ds ps → Below W.heap.size W W' → (∀ x ∈ ps,x.block < W.heap.size) →
  DataW.TrodAll enc P W' 0 (fun b => decide (b < W.heap.size)) true ts vs ds ps := by
  intro ts
  induction ts with
  | nil => intro vs ds ps _ h _ _;obtain ⟨rfl,rfl,rfl⟩ := trodAll_nil h;exact trodAll_mk0
  | cons t ts ih =>
    intro vs ds ps hts h hb hlt;obtain ⟨v,vs',d,ds',p,q,rfl,rfl,rfl,h1,h2⟩ := trodAll_cons h;have ht := hts t (by simp);exact ⟨p,q,Below.trod hl ht.1 ht.2 h1 hb (fun x hx => hlt x (by simp [hx])),ih (fun t' ht' => hts t' (by simp [ht'])) h2 hb (fun x hx => hlt x (by simp [hx])),rfl⟩
end Go.Proofs.YtlimabbeaimdgaaGreat
namespace Go.Proofs.YtlimabbeaimdgaaGreat
open Go.RowKit Go.WideShapes Go.Deep Go.ChangeShapes
def Fit : (s : Sh) → s.T → Prop
 | .int,n => -9223372036854775808 ≤ n ∧ n ≤ 9223372036854775807
 | .flt,x => x < 4294967296
 | .str,s => s.size ≤ maxLen
 | .sl e,l => ∀ x ∈ l,Fit e x
 | .pr a b,x => Fit a x.1 ∧ Fit b x.2
 | _,_ => True
def fieldsB (cellsOf : TypeId → Nat) (rec : TypeId → Sh → Bool) : List Field → Nat → Sh → Bool
 | [],_,.un => true
 | f :: fs,o,.pr a b => f.offset == o && cellsOf f.type == a.sz && rec f.type a && fieldsB cellsOf rec fs (o + a.sz) b
 | _,_,_ => false
def isSt : Sh → Bool
 | .pr _ _ => true
 | .un => true
 | _ => false
def tyB (P : Program) : (n : Nat) → TypeId → Sh → Bool
 | 0,_,_ => false
 | n + 1,t,s =>
   match P.underlying t,s with
   | some (.int .i64),.int => true
   | some (.float .f32),.flt => true
   | some .bool,.bool => true
   | some .string,.str => true
   | some (.slice e),.sl se => P.cellsOf e == se.sz && tyB P n e se
   | some (.struct fs),s => isSt s && P.cellsOf t == s.sz && fieldsB P.cellsOf (tyB P n) fs.toList 0 s
   | _,_ => false
theorem choose_list {A : Type} {R : Nat → A → Prop} : ∀ (n : Nat),(∀ i,i < n → ∃ a,R i a) → ∃ l : List A,l.length = n ∧ ∀ i a,l[i]? = some a → R i a
 | 0,_ => ⟨[],rfl,fun i a h => by simp at h⟩
 | n + 1,h => by
   obtain ⟨l,h1,h2⟩ := choose_list n (fun i hi => h i (by omega));obtain ⟨a,ha⟩ := h n (by omega);refine ⟨l ++ [a],by simp [h1],fun i b hb => ?_⟩
   by_cases hi : i < n
   · rw [List.getElem?_append_left (by omega)] at hb;exact h2 i b hb
   · rw [List.getElem?_append_right (by omega),h1] at hb
     have : i = n := by
      have := (List.getElem?_eq_some_iff.1 hb).1;simp at this;omega
     subst this;simp at hb;subst hb;exact ha
theorem flat_len' : ∀ {css : List (List Value)} {s : Nat},(∀ c ∈ css,c.length = s) → css.flatten.length = css.length * s
 | [],s,_ => by simp
 | c :: css,s,h => by
   rw [List.flatten_cons,List.length_append,flat_len' (fun c hc => h c (by simp [hc])),h c (by simp),List.length_cons,Nat.add_mul,Nat.one_mul,Nat.add_comm]
theorem flat_get' : ∀ {css : List (List Value)} {s i j : Nat} (h : ∀ c ∈ css,c.length = s) (hi : i < css.length) (hj : j < s),css.flatten[i * s + j]? = css[i][j]?
 | [],_,_,_,_,hi,_ => by simp at hi
 | c :: css,s,0,j,h,_,hj => by
   rw [List.flatten_cons,Nat.zero_mul,Nat.zero_add,List.getElem?_append_left (by rw [h c (by simp)];exact hj)];rfl
 | c :: css,s,i + 1,j,h,hi,hj => by
   have hc := h c (by simp);rw [List.flatten_cons,Nat.add_mul,Nat.one_mul,List.getElem?_append_right (by omega),hc,show i * s + s + j - s = i * s + j by omega,flat_get' (fun c hc => h c (by simp [hc])) (by simpa using hi) hj];rfl
section
variable {H : Type} {enc : TypeId × Value → H} {P : Program} {w : World} {base : Nat} {spare : Nat → Bool} {held : Bool}
theorem open_float {t : TypeId} {k : FloatKind} {fuel : Nat} {cs : List Value} {x : DataW H × List MemPlace} (ht : P.underlying t = some (.float k)) (h : DataW.trod enc P w base spare held fuel t cs = some x) : ∃ b,cs = [.float k b] ∧ (Lit.float k b).wf = true := by
 cases fuel with
 | zero => simp [DataW.trod] at h
 | succ n =>
   unfold DataW.trod at h;rw [ht] at h
   split at h <;> first | (simp at h;done) | skip
   all_goals (rename_i heq;try (cases heq))
   split at h
   · rename_i hk;obtain ⟨rfl,hw⟩ := hk;exact ⟨_,rfl,hw⟩
   · simp at h
theorem open_fields (n : Nat) (ih : ∀ t s fuel cs (x : DataW H × List MemPlace),tyB P n t s = true → DataW.trod enc P w base spare held fuel t cs = some x → ∃ d,Rep w s cs d ∧ Fit s d) :
 ∀ (fs : List Field) (o : Nat) (s : Sh) (fuel : Nat) (cs : List Value),fieldsB P.cellsOf (tyB P n) fs o s = true → (cs.drop o).length = s.sz →
   (∀ f ∈ fs,∃ x : DataW H × List MemPlace,DataW.trod enc P w base spare held fuel f.type ((cs.drop f.offset).take (P.cellsOf f.type)) = some x) → ∃ d,Rep w s (cs.drop o) d ∧ Fit s d
 | [],o,s,fuel,cs,h,hl,_ => by
   cases s <;> first | (simp [fieldsB] at h;done) | exact ⟨(),List.eq_nil_of_length_eq_zero hl,trivial⟩
 | f :: fs,o,s,fuel,cs,h,hl,hx => by
   cases s <;> first | (simp [fieldsB] at h;done) | skip
   rename_i a b
   simp only [fieldsB,Bool.and_eq_true,beq_iff_eq] at h;obtain ⟨⟨⟨h1,h2⟩,h3⟩,h4⟩ := h;obtain ⟨x,hx1⟩ := hx f (by simp);rw [h1,h2] at hx1;obtain ⟨da,ra,fa⟩ := ih _ _ _ _ _ h3 hx1
   have hl2 : (cs.drop (o + a.sz)).length = b.sz := by
    simp only [Sh.sz] at hl;rw [List.length_drop] at hl ⊢;omega
   obtain ⟨db,rb,fb⟩ := open_fields n ih fs (o + a.sz) b fuel cs h4 hl2 (fun f hf => hx f (by simp [hf]));refine ⟨(da,db),⟨_,_,?_,ra,rb⟩,fa,fb⟩;rw [← List.drop_drop,List.take_append_drop]
theorem open_rep : ∀ (n : Nat) (t : TypeId) (s : Sh) (fuel : Nat) (cs : List Value) (x : DataW H × List MemPlace),tyB P n t s = true → DataW.trod enc P w base spare held fuel t cs = some x → ∃ d,Rep w s cs d ∧ Fit s d
 | 0,_,_,_,_,_,h,_ => by simp [tyB] at h
 | n + 1,t,s,fuel,cs,x,h,hx => by
   unfold tyB at h
   split at h
   · rename_i ht
     obtain ⟨k,rfl,_,hw⟩ := DataW.trod_int ht hx;refine ⟨k,rfl,?_⟩;simp only [Lit.wf,Bool.and_eq_true,decide_eq_true_eq] at hw;exact hw
   · rename_i ht
     obtain ⟨b,rfl,hw⟩ := open_float ht hx;refine ⟨cn .f32 b,⟨b,rfl,rfl⟩,?_⟩;have hb : b < 4294967296 := by simpa [Lit.wf] using hw
     show cn .f32 b < 4294967296;unfold cn;split
     · decide
     · exact hb
   · rename_i ht
     obtain ⟨b,rfl,_⟩ := DataW.trod_bool ht hx;exact ⟨b,rfl,trivial⟩
   · rename_i ht
     obtain ⟨b,rfl,_,hw⟩ := DataW.trod_string ht hx;exact ⟨b,rfl,hw⟩
   · rename_i e se ht
     simp only [Bool.and_eq_true,beq_iff_eq] at h;obtain ⟨hsz,hrec⟩ := h;rcases open_slice ht hx with ⟨rfl,_⟩ | ⟨a,len,cap,m,n',D,Pl,rfl,_,hl,hm,hmm,_,hel⟩
     · exact ⟨[],⟨none,0,[],rfl,Cs.nil w none,Nat.le_refl _,Nat.zero_le _,.nil⟩,fun x hx => by simp at hx⟩
     · have hlm : len ≤ m := by rw [hmm];split <;> omega
       obtain ⟨l,hl1,hl2⟩ := choose_list (A := List Value × se.T) (R := fun i a' => w.cells? base (a.add (i * P.cellsOf e)) (P.cellsOf e) = some a'.1 ∧ Rep w se a'.1 a'.2 ∧ Fit se a'.2) len (fun i hi => by
        obtain ⟨cs',h1,h2⟩ := hel i (by omega);obtain ⟨d,h3,h4⟩ := open_rep n e se n' cs' _ hrec h2;exact ⟨(cs',d),h1,h3,h4⟩)
       have hall : ∀ c ∈ l.map Prod.fst,c.length = se.sz := by
        intro c hc;obtain ⟨p,hp,rfl⟩ := List.mem_map.1 hc;obtain ⟨i,hi,rfl⟩ := List.mem_iff_getElem.1 hp;exact (hl2 i _ (by simp)).2.1.size
       refine ⟨l.map Prod.snd,⟨some a,cap,l.map Prod.fst,by rw [List.length_map,hl1],⟨?_,fun _ => rfl⟩,by rw [List.length_map,hl1];exact hl,hm,All2.of_get (by simp) ?_⟩,?_⟩
       · intro k u hu
         have hk : k < (l.map Prod.fst).length * se.sz := by rw [← flat_len' hall];exact (List.getElem?_eq_some_iff.1 hu).1
         have hs0 : 0 < se.sz := by rcases Nat.eq_zero_or_pos se.sz with h0 | h0;(rw [h0] at hk;omega);exact h0
         have hi : k / se.sz < (l.map Prod.fst).length := (Nat.div_lt_iff_lt_mul hs0).2 hk;have hj := Nat.mod_lt k hs0;have hk2 : k = k / se.sz * se.sz + k % se.sz := by rw [Nat.mul_comm];exact (Nat.div_add_mod k se.sz).symm
         rw [hk2,flat_get' hall hi hj,List.getElem_map] at hu;have hi' : k / se.sz < l.length := by simpa using hi
         obtain ⟨h5,_⟩ := hl2 (k / se.sz) l[k / se.sz] (by simp);obtain ⟨_,_,h6⟩ := World.cells?_some h5;rw [hsz] at h6;have h7 := h6 (k % se.sz) hj;rw [hu,Go.Proofs.YtlimabbeaimdgaaGreat.add_add,← hk2] at h7;exact h7
       · intro i c d h1 h2
         rw [List.getElem?_map] at h1 h2
         cases hli : l[i]? with
         | none => rw [hli] at h1;simp at h1
         | some p =>
           rw [hli] at h1 h2;simp at h1 h2;subst h1;subst h2;exact (hl2 i p hli).2.1
       · intro d hd
         obtain ⟨p,hp,rfl⟩ := List.mem_map.1 hd;obtain ⟨i,hi,rfl⟩ := List.mem_iff_getElem.1 hp;exact (hl2 i _ (by simp)).2.2
   · rename_i s x0 s1 fs ht
     simp only [Bool.and_eq_true,beq_iff_eq] at h;obtain ⟨⟨_,hsz⟩,hf⟩ := h;obtain ⟨xs,n',_,_,hlen,hxl,hel⟩ := DataW.trod_struct ht hx
     have := open_fields n (fun t s fuel cs x => open_rep n t s fuel cs x) fs.toList 0 s n' cs hf (by rw [List.drop_zero,hlen,hsz]) (fun f hf => by
      obtain ⟨i,hi,rfl⟩ := List.mem_iff_getElem.1 hf;have h1 := hel i fs.toList[i] (by simp at hi ⊢);have hi' : i < xs.length := by rw [hxl];simpa using hi
      rw [List.getElem?_eq_getElem hi'] at h1;exact ⟨_,h1⟩)
     rwa [List.drop_zero] at this
   · simp at h
theorem open_arg {r : Reach} {b0 : Nat} {t : TypeId} {v : Value} {d : DataW H} {ps : List MemPlace} (s : Sh) (n : Nat) (h : tyB P n t s = true) (hval : Value.okWide P w r b0 t v) (hd : DataW.Trod enc P w base spare held t v d ps) :
 ∃ cs D,v = (if isSt s then .agg cs.toArray else cs.headD undef) ∧ Rep w s cs D ∧ Fit s D := by
 obtain ⟨fuel,hf⟩ := hd;obtain ⟨D,hr,hfit⟩ := open_rep n t s fuel _ _ h hf;refine ⟨_,D,?_,hr,hfit⟩
 cases n with
 | zero => simp [tyB] at h
 | succ n =>
   unfold tyB at h
   split at h
   · rename_i ht;obtain ⟨_,rfl⟩ := okWide_int ht hval;rfl
   · rename_i ht;obtain ⟨_,rfl⟩ := okWide_float ht hval;rfl
   · rename_i ht;obtain ⟨_,rfl⟩ := okWide_bool ht hval;rfl
   · rename_i ht;obtain ⟨_,rfl⟩ := okWide_string ht hval;rfl
   · rename_i ht;obtain ⟨_,_,_,rfl⟩ := okWide_slice ht hval;rfl
   · rename_i ht
     simp only [Bool.and_eq_true] at h;rw [if_pos h.1.1];obtain ⟨cs,rfl,_⟩ := okWide_struct ht hval;simp [Value.cells]
   · simp at h
end
end Go.Proofs.YtlimabbeaimdgaaGreat
namespace Go.Proofs.YtlimabbeaimdgaaGreat
open Go.RowKit
def OutOk (w : World) (s : Sh) (r : s.T × Bool) (e : Ending) (w' : World) : Prop :=
 ∃ cs bs,e = .returned (.tuple #[ofCs s cs,.bool r.2]) ∧ Own w' s cs r.1 bs ∧ bs.Nodup ∧ (∀ b ∈ bs,w.heap.size ≤ b) ∧ Ext w w'
theorem own_nil {w : World} {e : Sh} : Own w (.sl e) [.slice none 0 0] [] [] :=
 own_sl.2 ⟨none,0,[],[],rfl,.inl ⟨rfl,rfl,rfl,rfl⟩,Nat.le_refl _,Nat.zero_le _,⟨rfl,rfl,fun i cs bs d h => by simp at h⟩,rfl⟩
theorem outOk_no {w : World} {e : Sh} {en : Ending} {w' : World} (h : en = .returned (.tuple #[.slice none 0 0,.bool false])) (hx : Ext w w') : OutOk w (.sl e) ([],false) en w' :=
 ⟨[.slice none 0 0],[],h,own_nil,by simp,by simp,hx⟩
theorem Cs.blkLt {w : World} {b : Nat} {cs : List Value} (h : Cs w (some ⟨b,0,none⟩) cs) (hl : 0 < cs.length) : b < w.heap.size := by
 have := h.blk (List.ne_nil_of_length_pos hl)
 rwa [jbo] at this
theorem Cs.chgB {S : Nat → Prop} {w w' : World} {b : Nat} {cs : List Value} (h : Cs w (some ⟨b,0,none⟩) cs) (k : Chg S w w') (hb : b < w.heap.size) (hn : ¬ S b) : Cs w' (some ⟨b,0,none⟩) cs :=
 ⟨fun i u hu => by
  have := h.1 i u hu;rw [jbo] at this ⊢;rw [(k.cellOf hb hn).1];exact this,h.2⟩
theorem Ext.of_chg1 {w w' : World} {o : Obj} (ch : Chg (fun b => b = w.heap.size) (w.alloc o) w') : Ext w w' := (Ext.alloc w o).chg ch (fun b hb => by subst hb;exact Nat.le_refl _)
def parF (l : List jac.T) : List Nat := l.flatMap fun d => (d.2.2.2.1 : List Nat) ++ d.2.2.2.2.1
theorem parF_take {l : List jac.T} {i : Nat} (h : i < l.length) : parF (l.take (i + 1)) = parF (l.take i) ++ ((l[i].2.2.2.1 : List Nat) ++ l[i].2.2.2.2.1) := by
 unfold parF;rw [List.take_add_one,List.getElem?_eq_getElem h,List.flatMap_append];simp
def RetFl (w : World) (xs : List Nat) (e : Ending) (w' : World) : Prop :=
 ∃ q c vs,e = .returned (.slice q xs.length c) ∧ w'.ownsRow w.heap.size 48 1 (.slice q xs.length c) xs.length vs ∧ F32s vs xs ∧ Ext w w'
theorem F32s.app {us vs : List Value} {xs ys : List Nat} (h : F32s us xs) (k : F32s vs ys) : F32s (us ++ vs) (xs ++ ys) := by
 refine ⟨by rw [List.length_append,List.length_append,h.1,k.1],fun i hi => ?_⟩
 by_cases hl : i < xs.length
 · obtain ⟨b,h1,h2⟩ := h.2 i hl
   exact ⟨b,by rw [List.getElem?_append_left (by rw [h.1];exact hl)];exact h1,by rw [h2];simp [List.getD_eq_getElem?_getD,List.getElem?_append_left hl]⟩
 · rw [List.length_append] at hi
   obtain ⟨b,h1,h2⟩ := k.2 (i - xs.length) (by omega);exact ⟨b,by rw [List.getElem?_append_right (by rw [h.1];omega),h.1];exact h1,by rw [h2];simp [List.getD_eq_getElem?_getD,List.getElem?_append_right (show xs.length ≤ i by omega)]⟩
theorem F32s.one {us : List Value} {xs : List Nat} (h : F32s us xs) : ∀ u ∈ us,u.oneCell' = true := by
 intro u hu;obtain ⟨i,hi,rfl⟩ := List.mem_iff_getElem.1 hu;obtain ⟨b,h1,_⟩ := h.2 i (by rw [← h.1];exact hi);rw [List.getElem?_eq_getElem hi] at h1;rw [Option.some.inj h1];rfl
theorem retFl_of {w w' : World} {xs : List Nat} {v : Value} {e : Ending} {vs : List Value} {n : Nat} (hl : xs.length = n) (h : w'.ownsRow w.heap.size 48 1 v n vs) (hf : F32s vs xs) (he : e = .returned v) (hx : Ext w w') : RetFl w xs e w' := by
 subst hl
 obtain ⟨q,c,rfl⟩ : ∃ q c,v = .slice q xs.length c := by
  rcases h.2 with ⟨h1,h2⟩ | ⟨g,cap,cur,h1,_⟩
  · exact ⟨none,0,by rw [h1,h2]⟩
  · exact ⟨_,_,h1⟩
 exact ⟨q,c,vs,he,h,hf,hx⟩
end Go.Proofs.YtlimabbeaimdgaaGreat
