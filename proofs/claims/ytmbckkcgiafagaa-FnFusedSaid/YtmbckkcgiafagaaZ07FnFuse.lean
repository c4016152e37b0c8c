/- A part of the proofs: Lay2, Fcell, HLayer, HLayerS, HModel, Mod, App, Law, Open, Things, Par, Grow. -/
import Derived.Test.YtmbckkcgiafagaaZ06FnFuse
import Derived.Test.YtmbckkcgiafagaaZ03FnFuse
import Derived.Test.YtmbckkcgiafagaaZ02FnFuse
import Derived.ProofKit
import Derived.Deep.Slices
import Derived.WideShapes
import Derived.Laws.Cover2
import Derived.Maps.AppendAt
set_option linter.unusedSimpArgs false
set_option linter.unusedVariables false
set_option maxRecDepth 100000
set_option maxHeartbeats 16000000
namespace Go.Proofs.Ytmbckkcgiafagaa
open Go.RowKit
theorem l03Counts_any {sp : Option Nat} (bl o' : Nat) (k i o : Int) (w : World) (f0 : w.cell? ⟨bl,o',sp⟩ = some (.int .i64 k)) (f1 : w.cell? ⟨bl,o' + 1,none⟩ = some (.int .i64 i)) (f2 : w.cell? ⟨bl,o' + 2,none⟩ = some (.int .i64 o)) (k2 : 1 ≤ i ∧ i ≤ 8) (k3 : 1 ≤ o ∧ o ≤ 8) :
 Calls Try.prog 135 #[.pointer (some ⟨bl,o',sp⟩)] w fun e w' => e = .returned (.tuple #[.int .i64 (wCnt k i o),.int .i64 (bCnt k i o)]) ∧ Ext w w' := by
 obtain ⟨m0,m1⟩ := mul_bd k2 k3
 by_cases hk0 : k = 0
 · subst hk0
   have hw : wCnt 0 i o = i * o := rfl;have hb : bCnt 0 i o = o := rfl;rw [hw,hb];have hwr : IntKind.i64.wrap (i * o) = i * o := jao _ (by omega) (by omega);have d1 := (Ext.drew w).cell f1;have d2 := (Ext.drew w).cell f2;clear hw hb;go_enter Try.func135,Try.ntmps135;go_wp2;refine jab (F := fun _ _ _ => True) (by kernel_rfl) (by kernel_rfl) (by kernel_rfl) ?_;intro wf hwf
   repeat (first
    | ((first | (refine jar rfl ?_) | (refine x_mv rfl rfl rfl ?_) | (refine x_as rfl rfl rfl ?_));simp only [Act.put,jad,pu1,pu2,pu3,pu4,pu5])
    | (refine ja7 rfl fun K hK w1 hw1 => ?_;have k0 := hw1.cell (d1);have k1 := hw1.cell (d2);go_simp;refine hK _ ?_;clear hK K k0 k1 hw1 w1))
   refine ja6 ?_;go_wp2;go_ret2;exact ⟨rfl,(Ext.drew _).trans hwf⟩
 by_cases hk2 : k = 2
 · subst hk2
   have hw : wCnt 2 i o = i := rfl;have hb : bCnt 2 i o = 0 := rfl;rw [hw,hb];go_enter Try.func135,Try.ntmps135;go_wp2;go_ret2;exact ⟨rfl,Ext.refl _⟩
 by_cases hk5 : k = 5
 · subst hk5
   have hw : wCnt 5 i o = i := rfl;have hb : bCnt 5 i o = i := rfl;rw [hw,hb];have d1 := (Ext.drew w).cell f1;clear hw hb;go_enter Try.func135,Try.ntmps135;go_wp2;refine jab (F := fun _ _ _ => True) (by kernel_rfl) (by kernel_rfl) (by kernel_rfl) ?_;intro wf hwf
   repeat (first
    | ((first | (refine jar rfl ?_) | (refine x_mv rfl rfl rfl ?_) | (refine x_as rfl rfl rfl ?_));simp only [Act.put,jad,pu1,pu2,pu3,pu4,pu5])
    | (refine ja7 rfl fun K hK w1 hw1 => ?_;have k0 := hw1.cell (d1);go_simp;refine hK _ ?_;clear hK K k0 hw1 w1))
   refine ja6 ?_;go_wp2;go_ret2;exact ⟨rfl,(Ext.drew _).trans hwf⟩
 have F0 := jbt hk0;have F2 := jbt hk2;have F5 := jbt hk5;have hw : wCnt k i o = 0 := by unfold wCnt;rw [if_neg hk0,if_neg hk2,if_neg hk5]
 have hb : bCnt k i o = 0 := by unfold bCnt;rw [if_neg hk0,if_neg hk2,if_neg hk5]
 rw [hw,hb];clear hk0 hk2 hk5 hw hb;go_enter Try.func135,Try.ntmps135;go_wp2;go_ret2;exact ⟨rfl,Ext.refl _⟩
theorem l03Layer_any {sp : Option Nat} (bl o' : Nat) (k i o : Int) (pw pb : Option Addr) (nw cw nb cb : Nat) (w : World)
 (f0 : w.cell? ⟨bl,o',sp⟩ = some (.int .i64 k)) (f1 : w.cell? ⟨bl,o' + 1,none⟩ = some (.int .i64 i)) (f2 : w.cell? ⟨bl,o' + 2,none⟩ = some (.int .i64 o))
 (f3 : w.cell? ⟨bl,o' + 3,none⟩ = some (.slice pw nw cw)) (f4 : w.cell? ⟨bl,o' + 4,none⟩ = some (.slice pb nb cb)) (h1 : nw ≤ maxLen) (h2 : nb ≤ maxLen) :
 Calls Try.prog 119 #[.pointer (some ⟨bl,o',sp⟩)] w (RetB w (layB k i o nw nb)) := by
 unfold maxLen at h1 h2;generalize hB : layB k i o nw nb = B;have HB := hid hB;clear hB;unfold layB at HB
 cases k1 : inB k 0 5
 · have K1 := hid k1
   have : B = false := by rw [← HB.out,k1];rfl
   subst this;clear k1;go_enter Try.func119,Try.ntmps119;go_wp2_with (go_at_call 151;refine (l00In_any _ _ _ _).mono ?_;rintro e w1 ⟨rfl,rfl⟩;first | rw [K1.out]);go_ret;exact ⟨rfl,Ext.refl _⟩
 cases k2 : inB i 1 8
 · have K1 := hid k1
   have K2 := hid k2;have : B = false := by rw [← HB.out,k1,k2];rfl
   subst this;clear k1 k2;go_enter Try.func119,Try.ntmps119;go_wp2_with (go_at_call 151;refine (l00In_any _ _ _ _).mono ?_;rintro e w1 ⟨rfl,rfl⟩;first | rw [K1.out] | rw [K2.out]);go_ret;exact ⟨rfl,Ext.refl _⟩
 cases k3 : inB o 1 8
 · have K1 := hid k1
   have K2 := hid k2;have K3 := hid k3;have : B = false := by rw [← HB.out,k1,k2,k3];rfl
   subst this;clear k1 k2 k3;go_enter Try.func119,Try.ntmps119;go_wp2_with (go_at_call 151;refine (l00In_any _ _ _ _).mono ?_;rintro e w1 ⟨rfl,rfl⟩;first | rw [K1.out] | rw [K2.out] | rw [K3.out]);go_ret;exact ⟨rfl,Ext.refl _⟩
 have K1 := hid k1;have K2 := hid k2;have K3 := hid k3;rw [jas] at k1 k2 k3;have hB2 : B = ((decide (k = 0) || decide (i = o)) && (decide ((nw : Int) = wCnt k i o) && decide ((nb : Int) = bCnt k i o))) := by rw [← HB.out,K1.out,K2.out,K3.out];rfl
 clear HB;have C := hid (fun w' (h : Ext w w') => l03Counts_any bl o' k i o w' (h.cell f0) (h.cell f1) (h.cell f2) k2 k3);generalize wCnt k i o = W at *;generalize bCnt k i o = V at *;have key : ∀ (q : Bool),q = (decide (k = 0) || decide (i = o)) → True := fun _ _ => trivial
 clear key
 by_cases hk0 : k = 0
 · subst hk0
   by_cases e1 : (nw : Int) = W
   · by_cases e2 : (nb : Int) = V
     all_goals
      have E1 := beq_t e1
      first | have E2 := beq_t e2 | have E2 := jbt e2
      simp only [decide_true,e1,e2,decide_true,decide_false,Bool.true_or,Bool.or_true,Bool.true_and,Bool.and_true,Bool.and_false] at hB2;subst hB2;clear e1 e2;go_enter Try.func119,Try.ntmps119;go_wp2_with (go_at_call 151;refine (l00In_any _ _ _ _).mono ?_;rintro e w1 ⟨rfl,rfl⟩;first | rw [K1.out] | rw [K2.out] | rw [K3.out]);refine (C.out _ (Ext.refl _)).mono ?_;rintro e w1 ⟨rfl,e1⟩
      have x := e1.trans (Ext.drew w1);have d0 := x.cell f0;have d1 := x.cell f1;have d2 := x.cell f2;have d3 := x.cell f3;have d4 := x.cell f4;go_wp2;refine jab (F := fun _ _ _ => True) (by kernel_rfl) (by kernel_rfl) (by kernel_rfl) ?_;intro wf hwf
      repeat (first
       | ((first | (refine jar rfl ?_) | (refine x_mv rfl rfl rfl ?_) | (refine x_as rfl rfl rfl ?_));simp only [Act.put,jad,pu1,pu2,pu3,pu4,pu5])
       | (refine ja7 rfl fun K hK w1 hw1 => ?_;have k0 := hw1.cell (d0);have k1 := hw1.cell (d1);have k2 := hw1.cell (d2);have k3 := hw1.cell (d3);have k4 := hw1.cell (d4);go_simp;refine hK _ ?_;clear hK K k0 k1 k2 k3 k4 hw1 w1))
      refine ja6 ?_;go_wp2;go_ret;exact ⟨rfl,x.trans hwf⟩
   · have E1 := jbt e1
     simp only [decide_true,e1,decide_true,decide_false,Bool.true_or,Bool.or_true,Bool.true_and,Bool.false_and,Bool.and_false] at hB2;subst hB2;clear e1;go_enter Try.func119,Try.ntmps119;go_wp2_with (go_at_call 151;refine (l00In_any _ _ _ _).mono ?_;rintro e w1 ⟨rfl,rfl⟩;first | rw [K1.out] | rw [K2.out] | rw [K3.out]);refine (C.out _ (Ext.refl _)).mono ?_;rintro e w1 ⟨rfl,e1⟩
     have x := e1.trans (Ext.drew w1);have d0 := x.cell f0;have d1 := x.cell f1;have d2 := x.cell f2;have d3 := x.cell f3;have d4 := x.cell f4;go_wp2;refine jab (F := fun _ _ _ => True) (by kernel_rfl) (by kernel_rfl) (by kernel_rfl) ?_;intro wf hwf
     repeat (first
      | ((first | (refine jar rfl ?_) | (refine x_mv rfl rfl rfl ?_) | (refine x_as rfl rfl rfl ?_));simp only [Act.put,jad,pu1,pu2,pu3,pu4,pu5])
      | (refine ja7 rfl fun K hK w1 hw1 => ?_;have k0 := hw1.cell (d0);have k1 := hw1.cell (d1);have k2 := hw1.cell (d2);have k3 := hw1.cell (d3);have k4 := hw1.cell (d4);go_simp;refine hK _ ?_;clear hK K k0 k1 k2 k3 k4 hw1 w1))
     refine ja6 ?_;go_wp2;go_ret;exact ⟨rfl,x.trans hwf⟩
 have F0 := jbt hk0
 by_cases hio : ¬ i = o
 · have F1 := jbt hio
   have : B = false := by rw [hB2];simp [hk0,hio]
   subst this;clear hk0 hio hB2;go_enter Try.func119,Try.ntmps119;go_wp2_with (go_at_call 151;refine (l00In_any _ _ _ _).mono ?_;rintro e w1 ⟨rfl,rfl⟩;first | rw [K1.out] | rw [K2.out] | rw [K3.out]);refine (C.out _ (Ext.refl _)).mono ?_;rintro e w1 ⟨rfl,e1⟩
   have x := e1.trans (Ext.drew w1);have d0 := x.cell f0;have d1 := x.cell f1;have d2 := x.cell f2;have d3 := x.cell f3;have d4 := x.cell f4;go_wp2;refine jab (F := fun _ _ _ => True) (by kernel_rfl) (by kernel_rfl) (by kernel_rfl) ?_;intro wf hwf
   repeat (first
    | ((first | (refine jar rfl ?_) | (refine x_mv rfl rfl rfl ?_) | (refine x_as rfl rfl rfl ?_));simp only [Act.put,jad,pu1,pu2,pu3,pu4,pu5])
    | (refine ja7 rfl fun K hK w1 hw1 => ?_;have k0 := hw1.cell (d0);have k1 := hw1.cell (d1);have k2 := hw1.cell (d2);have k3 := hw1.cell (d3);have k4 := hw1.cell (d4);go_simp;refine hK _ ?_;clear hK K k0 k1 k2 k3 k4 hw1 w1))
   refine ja6 ?_;go_wp2;go_ret;exact ⟨rfl,x.trans hwf⟩
 have hio := Classical.not_not.1 hio;have F1 := beq_t hio
 by_cases e1 : (nw : Int) = W
 · by_cases e2 : (nb : Int) = V
   all_goals
    have E1 := beq_t e1
    first | have E2 := beq_t e2 | have E2 := jbt e2
    simp only [hio,e1,e2,decide_true,decide_false,Bool.true_or,Bool.or_true,Bool.true_and,Bool.and_true,Bool.and_false] at hB2;subst hB2;clear e1 e2 hio hk0;go_enter Try.func119,Try.ntmps119;go_wp2_with (go_at_call 151;refine (l00In_any _ _ _ _).mono ?_;rintro e w1 ⟨rfl,rfl⟩;first | rw [K1.out] | rw [K2.out] | rw [K3.out]);refine (C.out _ (Ext.refl _)).mono ?_;rintro e w1 ⟨rfl,e1⟩
    have x := e1.trans (Ext.drew w1);have d0 := x.cell f0;have d1 := x.cell f1;have d2 := x.cell f2;have d3 := x.cell f3;have d4 := x.cell f4;go_wp2;refine jab (F := fun _ _ _ => True) (by kernel_rfl) (by kernel_rfl) (by kernel_rfl) ?_;intro wf hwf
    repeat (first
     | ((first | (refine jar rfl ?_) | (refine x_mv rfl rfl rfl ?_) | (refine x_as rfl rfl rfl ?_));simp only [Act.put,jad,pu1,pu2,pu3,pu4,pu5])
     | (refine ja7 rfl fun K hK w1 hw1 => ?_;have k0 := hw1.cell (d0);have k1 := hw1.cell (d1);have k2 := hw1.cell (d2);have k3 := hw1.cell (d3);have k4 := hw1.cell (d4);go_simp;refine hK _ ?_;clear hK K k0 k1 k2 k3 k4 hw1 w1))
    refine ja6 ?_;go_wp2;go_ret;exact ⟨rfl,x.trans hwf⟩
 · have E1 := jbt e1
   simp only [hio,e1,decide_true,decide_false,Bool.true_or,Bool.or_true,Bool.true_and,Bool.false_and,Bool.and_false] at hB2;subst hB2;clear e1 hio hk0;go_enter Try.func119,Try.ntmps119;go_wp2_with (go_at_call 151;refine (l00In_any _ _ _ _).mono ?_;rintro e w1 ⟨rfl,rfl⟩;first | rw [K1.out] | rw [K2.out] | rw [K3.out]);refine (C.out _ (Ext.refl _)).mono ?_;rintro e w1 ⟨rfl,e1⟩
   have x := e1.trans (Ext.drew w1);have d0 := x.cell f0;have d1 := x.cell f1;have d2 := x.cell f2;have d3 := x.cell f3;have d4 := x.cell f4;go_wp2;refine jab (F := fun _ _ _ => True) (by kernel_rfl) (by kernel_rfl) (by kernel_rfl) ?_;intro wf hwf
   repeat (first
    | ((first | (refine jar rfl ?_) | (refine x_mv rfl rfl rfl ?_) | (refine x_as rfl rfl rfl ?_));simp only [Act.put,jad,pu1,pu2,pu3,pu4,pu5])
    | (refine ja7 rfl fun K hK w1 hw1 => ?_;have k0 := hw1.cell (d0);have k1 := hw1.cell (d1);have k2 := hw1.cell (d2);have k3 := hw1.cell (d3);have k4 := hw1.cell (d4);go_simp;refine hK _ ?_;clear hK K k0 k1 k2 k3 k4 hw1 w1))
   refine ja6 ?_;go_wp2;go_ret;exact ⟨rfl,x.trans hwf⟩
theorem fcell {w w1 : World} {p : Option Addr} {css : List (List Value)} {s n i : Nat} {cs : List Value} {v : Value} (hp : Cs w p css.flatten) (h6 : ∀ c ∈ css,c.length = s) (h7 : css.length = n) (hi : i < n) (hc : css[i]? = some cs) (j : Nat) (hx : Ext w w1) (hv : cs[j]? = some v) :
 w1.cell? ((adr p (i * s)).add j) = some v := by
 obtain ⟨_,rfl⟩ := List.getElem?_eq_some_iff.1 hc;have hj : j < s := by have := (List.getElem?_eq_some_iff.1 hv).1;rwa [h6 _ (List.getElem_mem _)] at this
 have h1 := (hp.ext hx).cell (i * s + j) v (by rw [flat_get h6 (by omega) hj];exact hv);unfold adr at h1 ⊢;rw [Go.Proofs.Ytmbckkcgiafagaa.add_add];exact h1
abbrev jaa : Sh := .pr .int (.pr .int (.pr .int (.pr (.sl .flt) (.pr (.sl .flt) (.un)))))
theorem fo_implLayer_0 (q : Addr) (w : World) : (Instr.fieldAt 41 (.pointer (some q)) 0).run Try.prog w = .ok (.pointer (some (q.add 0))) w := by go_simp
theorem jbn (q : Addr) (w : World) : (Instr.fieldAt 41 (.pointer (some q)) 1).run Try.prog w = .ok (.pointer (some (q.add 1))) w := by go_simp
theorem jbe (q : Addr) (w : World) : (Instr.fieldAt 41 (.pointer (some q)) 2).run Try.prog w = .ok (.pointer (some (q.add 2))) w := by go_simp
theorem fo_implLayer_3 (q : Addr) (w : World) : (Instr.fieldAt 41 (.pointer (some q)) 3).run Try.prog w = .ok (.pointer (some (q.add 3))) w := by go_simp
theorem fo_implLayer_4 (q : Addr) (w : World) : (Instr.fieldAt 41 (.pointer (some q)) 4).run Try.prog w = .ok (.pointer (some (q.add 4))) w := by go_simp
instance elStLayerimpl : ElTy Try.prog 41 jaa := ⟨by kernel_rfl,by kernel_rfl⟩
abbrev shLayerS : Sh := .sl jaa
instance slLayerSimpl : SlTy Try.prog 36 41 5 (.agg #[.int .i64 0,.int .i64 0,.int .i64 0,.slice none 0 0,.slice none 0 0]) 72 := ⟨by kernel_rfl,by kernel_rfl,by kernel_rfl,by decide,by decide⟩
instance szLayerSimpl : SlTy Try.prog 36 41 (Sh.sz jaa) (.agg #[.int .i64 0,.int .i64 0,.int .i64 0,.slice none 0 0,.slice none 0 0]) 72 := slLayerSimpl
instance elLayerSimpl : ElTy Try.prog 41 jaa := ⟨by kernel_rfl,by kernel_rfl⟩
abbrev jag : Sh := .pr shLayerS (.un)
instance elStModelimpl : ElTy Try.prog 38 jag := ⟨by kernel_rfl,by kernel_rfl⟩
def layD (d : jaa.T) : Bool := layB d.1 d.2.1 d.2.2.1 d.2.2.2.1.length d.2.2.2.2.1.length
def layO (d : jaa.T) : Int := d.2.2.1
def linkL : Option Int → Int → Bool
 | none,_ => true
 | some o,i => decide (i = o)
def modGo : Option Int → List jaa.T → Bool
 | _,[] => true
 | p,d :: l => layD d && (linkL p d.2.1 && modGo (some (layO d)) l)
def modB (l : List jaa.T) : Bool := decide (1 ≤ l.length) && (decide (l.length ≤ 6) && modGo none l)
def prevL (l : List jaa.T) : Nat → Option Int
 | 0 => none
 | i + 1 => l[i]?.map layO
theorem modGo_at {l : List jaa.T} {i : Nat} (hi : i < l.length) (p : Option Int) :
 modGo p (l.drop i) = (layD l[i] && (linkL p l[i].2.1 && modGo (prevL l (i + 1)) (l.drop (i + 1)))) := by
 rw [List.drop_eq_getElem_cons hi];simp [modGo,prevL,hi]
theorem lay_vals {w : World} {cs : List Value} {d : jaa.T} (h : Rep w jaa cs d) : ∃ pw cw pb cb,cs = [.int .i64 d.1,.int .i64 d.2.1,.int .i64 d.2.2.1,.slice pw d.2.2.2.1.length cw,.slice pb d.2.2.2.2.1.length cb] ∧ d.2.2.2.1.length ≤ maxLen ∧ d.2.2.2.2.1.length ≤ maxLen := by
 obtain ⟨a1,a2,a3,a4,a5,au⟩ := d;obtain ⟨_,_,rfl,rfl,_,_,rfl,rfl,_,_,rfl,rfl,_,_,rfl,h4,_,_,rfl,h5,rfl⟩ := h;obtain ⟨p4,c4,rfl,l4⟩ := rep_val h4;obtain ⟨p5,c5,rfl,l5⟩ := rep_val h5;exact ⟨p4,c4,p5,c5,rfl,l4,l5⟩
theorem l03Is_any {sp : Option Nat} (bl o' : Nat) (p : Option Addr) (n c : Nat) (l : List jaa.T) (css : List (List Value)) (w : World) (f0 : w.cell? ⟨bl,o',sp⟩ = some (.slice p n c)) (hn : l.length = n) (hm : n ≤ maxLen)
 (a2 : Cs w p css.flatten) (a5 : All2 (Rep w jaa) css l) (a6 : ∀ c ∈ css,c.length = jaa.sz) (a7 : css.length = n) :
 Calls Try.prog 75 #[.pointer (some ⟨bl,o',sp⟩)] w (RetB w (modB l)) := by
 unfold maxLen at hm;unfold modB;rw [hn]
 by_cases hn1 : 1 ≤ n
 rotate_left 1
 · rw [decide_eq_false hn1,Bool.false_and]
   clear a2 a5 a6 a7 hn;go_enter Try.func75,Try.ntmps75;go_wp2;go_ret;exact ⟨rfl,Ext.refl _⟩
 by_cases hn6 : n ≤ 6
 rotate_left 1
 · rw [decide_eq_false hn6,Bool.false_and,Bool.and_false]
   clear a2 a5 a6 a7 hn;go_enter Try.func75,Try.ntmps75;go_wp2;go_ret;exact ⟨rfl,Ext.refl _⟩
 rw [decide_eq_true hn1,decide_eq_true hn6,Bool.true_and,Bool.true_and];generalize hG : modGo none l = G;have HG := hid hG;have HL := hid hn;clear hG;go_enter Try.func75,Try.ntmps75;go_wp2;go_loopw [4] (fun iv wr => ∃ (i : Nat),i ≤ n ∧ iv = .int .i64 i ∧ Hid (modGo (prevL l i) (l.drop i) = G) ∧ Ext w wr) (fun iv _ => n - (intOf iv).toNat)
 case atStart => exact ⟨0,by omega,rfl,by simpa [Hid,prevL] using HG.out,Ext.refl w⟩
 case round =>
  obtain ⟨i,hi,rfl,HI,he⟩ := hrel;have g0 := he.cell f0
  by_cases hlt : i < n
  · have hil : i < l.length := by rw [HL.out];exact hlt
    obtain ⟨ci,hci,ri⟩ := a5.get i l[i] (by simp);obtain ⟨pw,cw,pb,cb,rfl,l1,l2⟩ := lay_vals ri;have hst := HI.out;rw [modGo_at hil] at hst;have hs1 := a2.some_of a6 (by decide) (show 0 < css.length by omega);have hp := a2.ext he;have C := hid (fun w1 (hw1 : Ext wr w1) => calls_retB (l03Layer_any (sp := (adr p (i * 5)).spot) (adr p (i * 5)).block (adr p (i * 5)).off _ _ _ pw pb _ cw _ cb w1 (fcell hp a6 a7 hlt hci 0 hw1 rfl) (fcell hp a6 a7 hlt hci 1 hw1 rfl) (fcell hp a6 a7 hlt hci 2 hw1 rfl) (fcell hp a6 a7 hlt hci 3 hw1 rfl) (fcell hp a6 a7 hlt hci 4 hw1 rfl) l1 l2));generalize hD : l[i] = d at *;have HD := hid hD;clear hD
    cases hb : layD d
    · have hG : G = false := by rw [← hst,hb];rfl
      subst hG;unfold layD at hb;rw [hb] at C;clear hb hst;obtain ⟨F,hF⟩ : ∃ F : Option Tmp → World → Value → Prop,F = fun _ _ u => u = .bool false := ⟨_,rfl⟩
      have HF := hid hF;have gd := (Ext.drew wr).cell g0;have hpd := hp.ext (Ext.drew wr);clear hF;go_wp2;refine jab (F := F) (by kernel_rfl) (by kernel_rfl) (by kernel_rfl) ?_;intro wf hwf
      repeat (first
       | ((first | (refine jar rfl ?_) | (refine x_mv rfl rfl rfl ?_) | (refine x_as rfl rfl rfl ?_) | ((with_reducible show gx5);refine x_idx (t := 36) (s := 5) (i := (i : Int)) rfl rfl rfl rfl hs1 (by omega) (by omega) ?_;rw [Int.toNat_natCast]) | ((with_reducible show gx6);refine jay (f := 119) (args := #[.pointer (some (adr p (i * 5)))]) rfl rfl Try.func119 rfl (by kernel_rfl) ?_ ?_ ?_;(focus (simp [Act.eval];done));(focus (intro w1 hw1;exact (by rw [HF.out];exact C.out w1 (((Ext.drew _).trans hw1)))));rintro u w3 e3 e4 hu;simp only [HF.out] at hu;subst hu));simp only [Act.put,jad,pu1,pu2,pu3,pu4,pu5])
       | (refine ja7 rfl fun K hK w1 hw1 => ?_;have k0 := hw1.cell (gd);go_simp;refine hK _ ?_;clear hK K k0 hw1 w1))
      refine ja6 ?_;go_wp2;go_ret;exact ⟨rfl,(he.trans (Ext.drew _)).trans hwf⟩
    have hb2 := hb;unfold layD at hb2;rw [hb2] at C;rw [hb,Bool.true_and] at hst;clear hb hb2;rcases Nat.eq_zero_or_pos i with h0 | h0
    · subst h0
      have hst2 : modGo (prevL l 1) (l.drop 1) = G := by rw [← hst];simp [linkL,prevL]
      have Hst := hid hst2;clear hst hst2;obtain ⟨F,hF⟩ : ∃ F : Option Tmp → World → Value → Prop,F = fun _ _ u => u = .bool true := ⟨_,rfl⟩
      have HF := hid hF;have gd := (Ext.drew wr).cell g0;have hpd := hp.ext (Ext.drew wr);clear hF;go_wp2;refine jab (F := F) (by kernel_rfl) (by kernel_rfl) (by kernel_rfl) ?_;intro wf hwf
      repeat (first
       | ((first | (refine jar rfl ?_) | (refine x_mv rfl rfl rfl ?_) | (refine x_as rfl rfl rfl ?_) | ((with_reducible show gx5);refine x_idx (t := 36) (s := 5) (i := ((0 : Nat) : Int)) rfl rfl rfl rfl hs1 (by omega) (by omega) ?_;rw [Int.toNat_natCast]) | ((with_reducible show gx6);refine jay (f := 119) (args := #[.pointer (some (adr p (0 * 5)))]) rfl rfl Try.func119 rfl (by kernel_rfl) ?_ ?_ ?_;(focus (simp [Act.eval];done));(focus (intro w1 hw1;exact (by rw [HF.out];exact C.out w1 (((Ext.drew _).trans hw1)))));rintro u w3 e3 e4 hu;simp only [HF.out] at hu;subst hu));simp only [Act.put,jad,pu1,pu2,pu3,pu4,pu5])
       | (refine ja7 rfl fun K hK w1 hw1 => ?_;have k0 := hw1.cell (gd);go_simp;refine hK _ ?_;clear hK K k0 hw1 w1))
      refine ja6 ?_;go_wp2;go_roundw
      case rel => exact ⟨1,by omega,by go_num,Hst.out,(he.trans (Ext.drew _)).trans hwf⟩
      case measure => simp [intOf];omega
    · obtain ⟨j,rfl⟩ : ∃ j,i = j + 1 := ⟨i - 1,by omega⟩
      obtain ⟨cj,hcj,rj⟩ := a5.get j l[j] (by simp);obtain ⟨qw,dw,qb,db,rfl,_,_⟩ := lay_vals rj;have hlk : linkL (prevL l (j + 1)) d.2.1 = decide (d.2.1 = layO l[j]) := by simp [prevL,linkL,show j < l.length by omega]
      rw [hlk] at hst;have hA : IntKind.i64.wrap (((j + 1 : Nat) : Int) - 1) = (j : Int) := by rw [show ((j + 1 : Nat) : Int) - 1 = (j : Int) by omega];exact jao _ (by omega) (by omega)
      have hB : IntKind.i64.wrap ((j : Int) + 1 - 1) = (j : Int) := by rw [show (j : Int) + 1 - 1 = (j : Int) by omega];exact jao _ (by omega) (by omega)
      have hC : IntKind.i64.wrap (j : Int) = (j : Int) := jao _ (by omega) (by omega);clear hlk
      by_cases hq : d.2.1 = layO l[j]
      · have hst2 : modGo (prevL l (j + 1 + 1)) (l.drop (j + 1 + 1)) = G := by rw [← hst];simp [hq]
        have Hst := hid hst2;have Q := bne_f hq.symm;unfold layO at Q;clear hst hst2 hq;obtain ⟨F,hF⟩ : ∃ F : Option Tmp → World → Value → Prop,F = fun _ _ u => u = .bool true := ⟨_,rfl⟩
        have HF := hid hF;have gd := (Ext.drew wr).cell g0;have hpd := hp.ext (Ext.drew wr);clear hF;go_wp2;refine jab (F := F) (by kernel_rfl) (by kernel_rfl) (by kernel_rfl) ?_;intro wf hwf
        repeat (first
         | ((first | (refine jar rfl ?_) | (refine x_mv rfl rfl rfl ?_) | (refine x_as rfl rfl rfl ?_) | ((with_reducible show gx7);first | (refine x_ldField (f := 2) (j := j) (off := 2) rfl rfl (fun _ => rfl) rfl (fun _ _ => rfl) rfl (fun _ => rfl) (fun _ _ => rfl) jbe rfl rfl (by omega) hpd a6 a7 (by omega) hs1 hcj rfl ?_) | (refine x_ldField (f := 1) (j := (j + 1)) (off := 1) rfl rfl (fun _ => rfl) rfl (fun _ _ => rfl) rfl (fun _ => rfl) (fun _ _ => rfl) jbn rfl rfl (by omega) hpd a6 a7 hlt hs1 hci rfl ?_)) | ((with_reducible show gx5);refine x_idx (t := 36) (s := 5) (i := ((j + 1 : Nat) : Int)) rfl rfl rfl rfl hs1 (by omega) (by omega) ?_;rw [Int.toNat_natCast]) | ((with_reducible show gx6);refine jay (f := 119) (args := #[.pointer (some (adr p ((j + 1) * 5)))]) rfl rfl Try.func119 rfl (by kernel_rfl) ?_ ?_ ?_;(focus (simp [Act.eval];done));(focus (intro w1 hw1;exact (by rw [HF.out];exact C.out w1 (((Ext.drew _).trans hw1)))));rintro u w3 e3 e4 hu;simp only [HF.out] at hu;subst hu));simp only [Act.put,jad,pu1,pu2,pu3,pu4,pu5])
         | (refine ja7 rfl fun K hK w1 hw1 => ?_;have k0 := hw1.cell (gd);go_simp;refine hK _ ?_;clear hK K k0 hw1 w1))
        refine ja6 ?_;go_wp2;go_roundw
        case rel => exact ⟨j + 1 + 1,by omega,by go_num,Hst.out,(he.trans (Ext.drew _)).trans hwf⟩
        case measure => simp [intOf];omega
      · have hG : G = false := by rw [← hst];simp [hq]
        subst hG;have Q := bne_t (fun h => hq h.symm);unfold layO at Q;clear hst hq;obtain ⟨F,hF⟩ : ∃ F : Option Tmp → World → Value → Prop,F = fun _ _ u => u = .bool true := ⟨_,rfl⟩
        have HF := hid hF;have gd := (Ext.drew wr).cell g0;have hpd := hp.ext (Ext.drew wr);clear hF;go_wp2;refine jab (F := F) (by kernel_rfl) (by kernel_rfl) (by kernel_rfl) ?_;intro wf hwf
        repeat (first
         | ((first | (refine jar rfl ?_) | (refine x_mv rfl rfl rfl ?_) | (refine x_as rfl rfl rfl ?_) | ((with_reducible show gx7);first | (refine x_ldField (f := 2) (j := j) (off := 2) rfl rfl (fun _ => rfl) rfl (fun _ _ => rfl) rfl (fun _ => rfl) (fun _ _ => rfl) jbe rfl rfl (by omega) hpd a6 a7 (by omega) hs1 hcj rfl ?_) | (refine x_ldField (f := 1) (j := (j + 1)) (off := 1) rfl rfl (fun _ => rfl) rfl (fun _ _ => rfl) rfl (fun _ => rfl) (fun _ _ => rfl) jbn rfl rfl (by omega) hpd a6 a7 hlt hs1 hci rfl ?_)) | ((with_reducible show gx5);refine x_idx (t := 36) (s := 5) (i := ((j + 1 : Nat) : Int)) rfl rfl rfl rfl hs1 (by omega) (by omega) ?_;rw [Int.toNat_natCast]) | ((with_reducible show gx6);refine jay (f := 119) (args := #[.pointer (some (adr p ((j + 1) * 5)))]) rfl rfl Try.func119 rfl (by kernel_rfl) ?_ ?_ ?_;(focus (simp [Act.eval];done));(focus (intro w1 hw1;exact (by rw [HF.out];exact C.out w1 (((Ext.drew _).trans hw1)))));rintro u w3 e3 e4 hu;simp only [HF.out] at hu;subst hu));simp only [Act.put,jad,pu1,pu2,pu3,pu4,pu5])
         | (refine ja7 rfl fun K hK w1 hw1 => ?_;have k0 := hw1.cell (gd);go_simp;refine hK _ ?_;clear hK K k0 hw1 w1))
        refine ja6 ?_;go_wp2;go_ret;exact ⟨rfl,(he.trans (Ext.drew _)).trans hwf⟩
  · obtain rfl : i = n := by omega
    have hst := HI.out;rw [List.drop_of_length_le (by rw [HL.out];exact Nat.le_refl _)] at hst;have hst2 : G = true := by rw [← hst];simp [modGo]
    subst hst2;go_wp2;go_ret;exact ⟨rfl,he⟩
section
variable {P : Program} {w : World} {ops : Array Oper} {rest : List Oper} {o : Oper} {a : Act} {Q : Exit → Act → World → Prop}
theorem run_append_none (base : Nat) (t ty e : TypeId) (i : TypeInfo) (size : Nat) (ht : P.underlying t = some (.slice e)) (hi : P.info? e = some i)
 (v : Value) (n c : Nat) (xs : List Value) (hown : w.ownsRow base e size v n xs) :
 (Builtin.append_ #[t,t] ty #[v,.slice none 0 c]).run P w = .ok v w := by
 rcases hown.2 with ⟨rfl,rfl⟩ | ⟨g,cap,cur,rfl,_,_,hnc,_⟩
 · simp [Builtin.append_,run_underlying ht,sizeOf,typeInfo,hi,Builtin.lenOf,Builtin.firstCells]
 · simp [Builtin.append_,run_underlying ht,sizeOf,typeInfo,hi,Builtin.lenOf,Builtin.firstCells,hnc,storeCells]
theorem wl_appz {t e s b : Nat} {z : Value} [T : SlTy P t e s z b] {x1 x2 : Operand} {v : Value} {B n m c : Nat} {vs us : List Value} {p : Option Addr}
 (hg : o.guard = none) (ho : o.op = .call { callee := .builtin .append,args := #[x1,x2],argTypes := #[t,t] })
 (hx1 : a.eval x1 = v) (hx2 : a.eval x2 = .slice p m c) (how : w.ownsRow B e s v n vs) (hc : Cs w p us) (hm : us.length = m * s) (hmc : m ≤ c) (h1 : ∀ u ∈ us,u.oneCell' = true)
 (hn : n + m ≤ maxLen) (hb : (n + m) * b ≤ 140737488355328) (hB : B ≤ w.heap.size)
 (h : ∀ v' w',w'.ownsRow B e s v' (n + m) (vs ++ us) → w.grownBy w' v.ownBlock → wpList P ops Q rest (a.put o.dst v') w') : wpList P ops Q (o :: rest) a w := by
 obtain ⟨ti,hi,hzz⟩ := Option.map_eq_some_iff.1 T.inf;simp only [Prod.mk.injEq] at hzz
 cases p with
 | some ad =>
   exact wpList_append_own _ hg x1 x2 t ho B e ti z s b T.und hi hzz.1 hzz.2.1 hzz.2.2 T.zs T.pos v n vs hx1 how ad m c us hx2 hm (fun j u hj => hc.cell j u hj) h1 hn hb hB (fun v' w' h1 h2 _ => h v' w' h1 h2)
 | none =>
   have hus : us = [] := Classical.byContradiction fun hn => by have := hc.isS hn;simp at this
   subst hus
   have hm0 : m = 0 := by
    rcases Nat.eq_zero_or_pos m with h | h
    · exact h
    · have := Nat.mul_pos h T.pos;simp at hm;omega
   subst hm0;refine wpList_plain hg fun K hK' => ?_
   have hrun := run_append_none (P := P) B t o.type e ti s T.und hi v n c vs how;unfold Oper.wp;simp [execOp,ho,resolve,invoke,builtin,hx1,hx2,hrun,Result.andThen];exact hK' _ _ (h v w (by simpa using how) (World.grownBy.refl _ _))
end
end Go.Proofs.Ytmbckkcgiafagaa
namespace Go.Proofs.Ytmbckkcgiafagaa
open Go.RowKit Go.ChangeShapes Go.WideShapes Go.ChangeAt
theorem own_knob : ownKnob Try.prog.godebug = none := by kernel_rfl
theorem laid_out : laidOutB Try.prog = true := by kernel_rfl
theorem post_true {H : Type} {enc : TypeId × Value → H} {P : Program} {f : Func} {s : ChangeSpec} {W W' : World} {args : Array Value} {ds : List (DataW H)} {before : List MemPlace} {tb : TypeId}
 (hl : laidOutB P = true) (hvs : s.vars = []) (hrt : f.resultTypes = #[tb]) (hb : P.underlying tb = some .bool)
 (hps : ∀ t ∈ f.params.toList,P.readableRec t = true ∧ t < P.types.size)
 (hfn : s.fn H (ds ++ []) = { results := [.lit (.bool true)],args := ds })
 (hW : DataW.Whole enc P f.params.toList s.vars false W args.toList ds [] before) (he : Ext W W') :
 s.post enc P f false true false false W args (.bool true) W' := by
 obtain ⟨p,q,hA,hV,hpq,hfz,hnd⟩ := hW;have hW' : DataW.Whole enc P f.params.toList s.vars false W args.toList ds [] before := ⟨p,q,hA,hV,hpq,hfz,hnd⟩
 have hq : q = [] := by
  rw [hvs] at hV;exact (trodVars_none hV).2
 subst hq;simp only [List.append_nil] at hpq;subst hpq;refine ⟨ds,[],before,[],before,[],hW',?_,?_,?_,?_,fun h => by cases h⟩
 · rw [hfn,hrt]
   exact trodAll_mk1 (shut_bool hb _)
 · rw [hfn]
   exact stays hl hps hA he.below (fun x hx => by have := hW'.lt x hx;simpa using this)
 · rw [hvs] at hV ⊢
   rw [hfn];exact hV0
 · exact he.below.frame _
where
 hV0 {H : Type} {enc : TypeId × Value → H} {P : Program} {W' : World} {sp : Nat → Bool} : DataW.TrodVars enc P W' sp [] [] [] := rfl
 stays {H : Type} {enc : TypeId × Value → H} {P : Program} {W W' : World} (hl : laidOutB P = true) : ∀ {ts : List TypeId} {vs : List Value} {ds : List (DataW H)} {ps : List MemPlace},
  (∀ t ∈ ts,P.readableRec t = true ∧ t < P.types.size) → DataW.TrodAll enc P W 0 (fun _ => true) true ts vs ds ps → Below W.heap.size W W' → (∀ x ∈ ps,x.block < W.heap.size) →
  DataW.TrodAll enc P W' 0 (fun b => decide (b < W.heap.size)) true ts vs ds ps := by
  intro ts
  induction ts with
  | nil => intro vs ds ps _ h _ _;obtain ⟨rfl,rfl,rfl⟩ := trodAll_nil h;exact trodAll_mk0
  | cons t ts ih =>
    intro vs ds ps hts h hb hlt;obtain ⟨v,vs',d,ds',p,q,rfl,rfl,rfl,h1,h2⟩ := trodAll_cons h;have ht := hts t (by simp);exact ⟨p,q,Below.trod hl ht.1 ht.2 h1 hb (fun x hx => hlt x (by simp [hx])),ih (fun t' ht' => hts t' (by simp [ht'])) h2 hb (fun x hx => hlt x (by simp [hx])),rfl⟩
end Go.Proofs.Ytmbckkcgiafagaa
namespace Go.Proofs.Ytmbckkcgiafagaa
open Go.RowKit Go.WideShapes Go.Deep Go.ChangeShapes
def Fit : (s : Sh) → s.T → Prop
 | .int,n => -9223372036854775808 ≤ n ∧ n ≤ 9223372036854775807
 | .flt,x => x < 4294967296
 | .str,s => s.size ≤ maxLen
 | .sl e,l => ∀ x ∈ l,Fit e x
 | .pr a b,x => Fit a x.1 ∧ Fit b x.2
 | _,_ => True
theorem choose_list {A : Type} {R : Nat → A → Prop} : ∀ (n : Nat),(∀ i,i < n → ∃ a,R i a) → ∃ l : List A,l.length = n ∧ ∀ i a,l[i]? = some a → R i a
 | 0,_ => ⟨[],rfl,fun i a h => by simp at h⟩
 | n + 1,h => by
   obtain ⟨l,h1,h2⟩ := choose_list n (fun i hi => h i (by omega));obtain ⟨a,ha⟩ := h n (by omega);refine ⟨l ++ [a],by simp [h1],fun i b hb => ?_⟩
   by_cases hi : i < n
   · rw [List.getElem?_append_left (by omega)] at hb;exact h2 i b hb
   · rw [List.getElem?_append_right (by omega),h1] at hb
     have : i = n := by
      have := (List.getElem?_eq_some_iff.1 hb).1;simp at this;omega
     subst this;simp at hb;subst hb;exact ha
theorem flat_len' : ∀ {css : List (List Value)} {s : Nat},(∀ c ∈ css,c.length = s) → css.flatten.length = css.length * s
 | [],s,_ => by simp
 | c :: css,s,h => by
   rw [List.flatten_cons,List.length_append,flat_len' (fun c hc => h c (by simp [hc])),h c (by simp),List.length_cons,Nat.add_mul,Nat.one_mul,Nat.add_comm]
end Go.Proofs.Ytmbckkcgiafagaa
namespace Go.Proofs.Ytmbckkcgiafagaa
open Go.RowKit
def OutOk (w : World) (s : Sh) (r : s.T × Bool) (e : Ending) (w' : World) : Prop :=
 ∃ cs bs,e = .returned (.tuple #[ofCs s cs,.bool r.2]) ∧ Own w' s cs r.1 bs ∧ bs.Nodup ∧ (∀ b ∈ bs,w.heap.size ≤ b) ∧ Ext w w'
def Out2 (w : World) (s t : Sh) (r : s.T × t.T × Bool) (e : Ending) (w' : World) : Prop :=
 ∃ c1 b1 c2 b2,e = .returned (.tuple #[ofCs s c1,ofCs t c2,.bool r.2.2]) ∧ Own w' s c1 r.1 b1 ∧ Own w' t c2 r.2.1 b2 ∧ (b1 ++ b2).Nodup ∧ (∀ b ∈ b1 ++ b2,w.heap.size ≤ b) ∧ Ext w w'
theorem own_nil {w : World} {e : Sh} : Own w (.sl e) [.slice none 0 0] [] [] :=
 own_sl.2 ⟨none,0,[],[],rfl,.inl ⟨rfl,rfl,rfl,rfl⟩,Nat.le_refl _,Nat.zero_le _,⟨rfl,rfl,fun i cs bs d h => by simp at h⟩,rfl⟩
theorem outOk_no {w : World} {e : Sh} {en : Ending} {w' : World} (h : en = .returned (.tuple #[.slice none 0 0,.bool false])) (hx : Ext w w') : OutOk w (.sl e) ([],false) en w' :=
 ⟨[.slice none 0 0],[],h,own_nil,by simp,by simp,hx⟩
theorem Cs.chgB {S : Nat → Prop} {w w' : World} {b : Nat} {cs : List Value} (h : Cs w (some ⟨b,0,none⟩) cs) (k : Chg S w w') (hb : b < w.heap.size) (hn : ¬ S b) : Cs w' (some ⟨b,0,none⟩) cs :=
 ⟨fun i u hu => by
  have := h.1 i u hu;rw [jap] at this ⊢;rw [(k.cellOf hb hn).1];exact this,h.2⟩
def parF (l : List jaa.T) : List Nat := l.flatMap fun d => (d.2.2.2.1 : List Nat) ++ d.2.2.2.2.1
def RetFl (w : World) (xs : List Nat) (e : Ending) (w' : World) : Prop :=
 ∃ q c vs,e = .returned (.slice q xs.length c) ∧ w'.ownsRow w.heap.size 33 1 (.slice q xs.length c) xs.length vs ∧ F32s vs xs ∧ Ext w w'
theorem F32s.app {us vs : List Value} {xs ys : List Nat} (h : F32s us xs) (k : F32s vs ys) : F32s (us ++ vs) (xs ++ ys) := by
 refine ⟨by rw [List.length_append,List.length_append,h.1,k.1],fun i hi => ?_⟩
 by_cases hl : i < xs.length
 · obtain ⟨b,h1,h2⟩ := h.2 i hl
   exact ⟨b,by rw [List.getElem?_append_left (by rw [h.1];exact hl)];exact h1,by rw [h2];simp [List.getD_eq_getElem?_getD,List.getElem?_append_left hl]⟩
 · rw [List.length_append] at hi
   obtain ⟨b,h1,h2⟩ := k.2 (i - xs.length) (by omega);exact ⟨b,by rw [List.getElem?_append_right (by rw [h.1];omega),h.1];exact h1,by rw [h2];simp [List.getD_eq_getElem?_getD,List.getElem?_append_right (show xs.length ≤ i by omega)]⟩
theorem F32s.one {us : List Value} {xs : List Nat} (h : F32s us xs) : ∀ u ∈ us,u.oneCell' = true := by
 intro u hu;obtain ⟨i,hi,rfl⟩ := List.mem_iff_getElem.1 hu;obtain ⟨b,h1,_⟩ := h.2 i (by rw [← h.1];exact hi);rw [List.getElem?_eq_getElem hi] at h1;rw [Option.some.inj h1];rfl
theorem retFl_of {w w' : World} {xs : List Nat} {v : Value} {e : Ending} {vs : List Value} {n : Nat} (hl : xs.length = n) (h : w'.ownsRow w.heap.size 33 1 v n vs) (hf : F32s vs xs) (he : e = .returned v) (hx : Ext w w') : RetFl w xs e w' := by
 subst hl
 obtain ⟨q,c,rfl⟩ : ∃ q c,v = .slice q xs.length c := by
  rcases h.2 with ⟨h1,h2⟩ | ⟨g,cap,cur,h1,_⟩
  · exact ⟨none,0,by rw [h1,h2]⟩
  · exact ⟨_,_,h1⟩
 exact ⟨q,c,vs,he,h,hf,hx⟩
theorem lay_nums {w : World} {cs : List Value} {d : jaa.T} (h : Rep w jaa cs d) : ∃ pw cw pb cb us vs,cs = [.int .i64 d.1,.int .i64 d.2.1,.int .i64 d.2.2.1,.slice pw d.2.2.2.1.length cw,.slice pb d.2.2.2.2.1.length cb] ∧
 Cs w pw us ∧ F32s us d.2.2.2.1 ∧ d.2.2.2.1.length ≤ cw ∧ Cs w pb vs ∧ F32s vs d.2.2.2.2.1 ∧ d.2.2.2.2.1.length ≤ cb := by
 obtain ⟨a1,a2,a3,a4,a5,au⟩ := d;obtain ⟨_,_,rfl,rfl,_,_,rfl,rfl,_,_,rfl,rfl,_,_,rfl,h4,_,_,rfl,h5,rfl⟩ := h;obtain ⟨p4,c4,us,rfl,h1,h2,h3,_⟩ := ja5.1 h4;obtain ⟨p5,c5,vs,rfl,g1,g2,g3,_⟩ := ja5.1 h5;exact ⟨p4,c4,p5,c5,us,vs,rfl,h1,h2,h3,g1,g2,g3⟩
section
variable {P : Program} {w : World} {ops : Array Oper} {rest : List Oper} {o o1 o2 : Oper} {a : Act} {Q : Exit → Act → World → Prop}
theorem ja4 {t e s b : Nat} {z : Value} [T : SlTy P t e s z b] {x1 s2 : Operand} {d1 : Tmp} {u : Value} {v : Value} {B n : Nat} {vs : List Value}
 (hg1 : o1.guard = none) (ho1 : o1.op = .buildSlice t 1 #[(0,x1)]) (hg2 : o2.guard = none) (ho2 : o2.op = .call { callee := .builtin .append,args := #[s2,.tmp d1],argTypes := #[t,t] })
 (hx : a.eval x1 = u) (hu : u.cells.size = s) (hu1 : u.cells.toList.all (fun y => y.oneCell') = true) (hd : ∀ y,(a.put o1.dst y).eval (.tmp d1) = y) (hs : ∀ y,(a.put o1.dst y).eval s2 = v)
 (how : w.ownsRow B e s v n vs) (hn : n + 1 ≤ maxLen) (hb : (n + 1) * b ≤ 140737488355328) (hB : B ≤ w.heap.size)
 (h : ∀ g c w',w'.ownsRow B e s (.slice (some ⟨g,0,none⟩) (n + 1) c) (n + 1) (vs ++ u.cells.toList) → w.grownBy w' v.ownBlock → (v.ownBlock = some g ∨ g = w.heap.size + 1) →
  wpList P ops Q rest ((a.put o1.dst (.slice (some ⟨w.heap.size,0,none⟩) 1 1)).put o2.dst (.slice (some ⟨g,0,none⟩) (n + 1) c)) w') : wpList P ops Q (o1 :: o2 :: rest) a w := by
 obtain ⟨ti,hi,hzz⟩ := Option.map_eq_some_iff.1 T.inf;simp only [Prod.mk.injEq] at hzz;have hund := T.und;have hpos := T.pos;have hs24 := T.few
 have hrun : (execOp a.eval o1).run P w = .ok (.value (.slice (some ⟨w.heap.size,0,none⟩) 1 1)) (w.alloc (.cells u.cells e)) := by
  have hfill : Instr.fill (fun i => some (i * s,s)) ((Array.range (1 * s)).map (z.cells[· % z.cells.size]!)) [(0,u)] = some u.cells := by
   simp only [Instr.fill,hu,Array.size_map,Array.size_range,Nat.zero_mul,Nat.zero_add,Nat.one_mul,Nat.lt_irrefl,ne_eq,not_true_eq_false,decide_false,Bool.or_self,gt_iff_lt,Bool.false_eq_true,if_false]
   congr 1
   exact wl_app1.fill_all (w := w) (s := s) (b := b) (u := u) (B := B) (n := n) _ _ (by simp [hu])
  simp [execOp,ho1,hx,Instr.buildSlice,run_underlying hund,sizeOf,typeInfo,hi,hzz.2.1,zeroValue,hzz.1,show ¬ 16777216 < s by omega,show ¬ s = 0 by omega,newRow];rw [show (Array.map (fun x => z.cells[x % z.cells.size]!) (Array.range s)) = (Array.range (1 * s)).map (z.cells[· % z.cells.size]!) by rw [Nat.one_mul],hfill];simp
 refine jbi hg1 hrun ?_;have how' := how.alloc (Obj.cells u.cells e);refine wpList_append_own_at _ hg2 s2 (.tmp d1) t ho2 B e ti z s b hund hi hzz.1 hzz.2.1 hzz.2.2 T.zs hpos v n vs (hs _) how' ⟨w.heap.size,0,none⟩ 1 1 u.cells.toList (hd _) (by simp [hu]) ?_ (List.all_eq_true.1 hu1) hn hb (by simp;omega) ?_
 · intro j y hj
   rw [Addr.add_lit,Nat.zero_add];have hnew : (w.alloc (.cells u.cells e)).heap[w.heap.size]? = some (.cells u.cells e) := heap_alloc_new w _;unfold World.cell?;rw [hnew]
   simpa using hj
 · intro v' w' h1 h2 h3 h4
   rcases h1.2 with ⟨_,h5⟩ | ⟨g,cap,cur,rfl,_⟩
   · omega
   · refine h g cap w' h1 (@wl_app1.grown_alloc w s b u B n _ _ _ _ h2) ?_
     rcases h4 with h4 | h4
     · left;rw [← h4];rfl
     · right;simp [Value.ownBlock] at h4;exact h4
end
structure GrowOwn (w : World) (B : Nat) (te : TypeId) (E : Sh) (v : Value) (l : List E.T) (css : List (List Value)) (bss : List (List Nat)) : Prop where
 row : w.ownsRow B te E.sz v l.length css.flatten
 els : OwnEs w E css bss l
 nodup : bss.flatten.Nodup
 lo : ∀ b ∈ bss.flatten,B ≤ b ∧ v.ownBlock ≠ some b
theorem OwnEs.lt {w : World} {E : Sh} {css : List (List Value)} {bss : List (List Nat)} {l : List E.T} (h : OwnEs w E css bss l) : ∀ b ∈ bss.flatten,b < w.heap.size := by
 intro b hb;obtain ⟨bj,hm,hbj⟩ := List.mem_flatten.1 hb;obtain ⟨j,hj,rfl⟩ := List.mem_iff_getElem.1 hm;have k1 := h.1;have k2 := h.2.1;exact (h.2.2 j (css[j]'(by omega)) bss[j] (l[j]'(by omega)) (by simp) (by simp) (by simp)).lt b hbj
theorem GrowOwn.ext {w w' : World} {B : Nat} {te : TypeId} {E : Sh} {v : Value} {l : List E.T} {css : List (List Value)} {bss : List (List Nat)} (h : GrowOwn w B te E v l css bss) (e : Ext w w') : GrowOwn w' B te E v l css bss :=
 ⟨jak h.row e,h.els.chg (.of_ext e) (S := fun _ => False) (fun _ _ h => h),h.nodup,h.lo⟩
theorem GrowOwn.empty {w : World} {B : Nat} {te : TypeId} {E : Sh} {v : Value} (h : w.ownsRow B te E.sz v 0 []) : GrowOwn w B te E v [] [] [] :=
 ⟨h,⟨rfl,rfl,fun i cs bs d h => by simp at h⟩,by simp,by simp⟩
theorem GrowOwn.snoc {w0 w w' : World} {B : Nat} {te : TypeId} {E : Sh} {v : Value} {l : List E.T} {css : List (List Value)} {bss : List (List Nat)} (h : GrowOwn w0 B te E v l css bss) (hx : Ext w0 w) {cs : List Value} {d : E.T} {bs : List Nat}
 (ho : Own w E cs d bs) (hn : bs.Nodup) (hf : ∀ b ∈ bs,w0.heap.size ≤ b) (hB : B ≤ w0.heap.size) {g c n : Nat} (hln : l.length = n) (hr : w'.ownsRow B te E.sz (.slice (some ⟨g,0,none⟩) (n + 1) c) (n + 1) (css.flatten ++ cs)) (hg : w.grownBy w' v.ownBlock) (hw : v.ownBlock = some g ∨ g = w.heap.size + 1) :
 GrowOwn w' B te E (.slice (some ⟨g,0,none⟩) (n + 1) c) (l ++ [d]) (css ++ [cs]) (bss ++ [bs]) := by
 subst hln;have lt0 := h.els.lt;have hv : ∀ k,v.ownBlock = some k → k < w0.heap.size := own_lt h.row;have hsz := hx.size;have ch : Chg (fun k => some k = v.ownBlock) w w' := Chg.of_grown hg;refine ⟨by simpa [List.flatten_append] using hr,?_,?_,?_⟩
 · refine OwnEs.snoc ((h.els.chg (.of_ext hx) (S := fun _ => False) (fun _ _ h => h)).chg ch (fun b hb hk => (h.lo b hb).2 hk.symm)) (ho.chg ch fun b hb hk => ?_)
   have := hv b hk.symm;have := hf b hb;omega
 · rw [List.flatten_append,List.flatten_cons,List.flatten_nil,List.append_nil]
   exact nodup_app h.nodup hn lt0 hf
 · intro b hb
   rw [List.flatten_append,List.flatten_cons,List.flatten_nil,List.append_nil,List.mem_append] at hb
   have hlb : b < w.heap.size := by
    rcases hb with hb | hb
    · have := lt0 b hb;omega
    · exact ho.lt b hb
   refine ⟨?_,fun hk => ?_⟩
   · rcases hb with hb | hb
     · exact (h.lo b hb).1
     · have := hf b hb;omega
   · simp [Value.ownBlock] at hk;subst hk
     rcases hw with hw | hw
     · rcases hb with hb | hb
       · exact (h.lo _ hb).2 hw
       · have := hv _ hw;have := hf _ hb;omega
     · omega
theorem GrowOwn.own {w : World} {B : Nat} {te : TypeId} {E : Sh} {v : Value} {l : List E.T} {css : List (List Value)} {bss : List (List Nat)} (h : GrowOwn w B te E v l css bss) : ∃ bs,Own w (.sl E) [v] l bs ∧ bs.Nodup ∧ ∀ b ∈ bs,B ≤ b := by
 obtain ⟨h1,h2,h3,h4⟩ := h;have hrow := h1;obtain ⟨hl,hr⟩ := h1;rcases hr with ⟨rfl,h0⟩ | ⟨g,cap,cur,rfl,hg,hh,hnc,hm,hsz,ht⟩
 · have hl0 : l = [] := List.eq_nil_of_length_eq_zero h0
   subst hl0;have hb0 : bss = [] := List.eq_nil_of_length_eq_zero h2.2.1;have hc0 : css = [] := List.eq_nil_of_length_eq_zero h2.1;subst hb0;subst hc0;exact ⟨[],own_sl.2 ⟨none,0,[],[],rfl,.inl ⟨rfl,rfl,rfl,rfl⟩,Nat.le_refl _,Nat.zero_le _,h2,rfl⟩,by simp,by simp⟩
 · refine ⟨g :: bss.flatten,own_sl.2 ⟨some ⟨g,0,none⟩,cap,css,bss,rfl,jbl hrow,hnc,hm,h2,rfl⟩,?_,?_⟩
   · rw [List.nodup_cons];exact ⟨fun hb => (h4 g hb).2 rfl,h3⟩
   · intro b hb
     rcases List.mem_cons.1 hb with rfl | hb
     · exact hg
     · exact (h4 b hb).1
end Go.Proofs.Ytmbckkcgiafagaa
