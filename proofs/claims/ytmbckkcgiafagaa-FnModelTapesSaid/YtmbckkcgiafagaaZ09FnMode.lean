/- A part of the proofs: Mod2, Stg, InOut, RowT, Clo, Row. -/
import Derived.Test.YtmbckkcgiafagaaZ06FnMode
import Derived.Test.YtmbckkcgiafagaaZ08FnMode
import Derived.Test.YtmbckkcgiafagaaZ07FnMode
import Derived.Test.YtmbckkcgiafagaaZ03FnMode
set_option linter.unusedSimpArgs false
set_option linter.unusedVariables false
set_option maxRecDepth 100000
set_option maxHeartbeats 16000000
namespace Go.Proofs.Ytmbckkcgiafagaa
open Go.RowKit
theorem ValidModel_any (p : Option Addr) (n c : Nat) (l : List jac.T) (css : List (List Value)) (w : World) (hn : l.length = n) (hm : n ≤ maxLen)
 (a2 : Cs w p css.flatten) (a5 : All2 (Rep w jac) css l) (a6 : ∀ c ∈ css,c.length = jac.sz) (a7 : css.length = n) :
 Calls Try.prog 35 #[.agg #[.slice p n c]] w (RetB w (modB l)) := by
 unfold maxLen at hm;unfold modB;generalize hG : modGo none l = G;have HG := hid hG;have HL := hid hn;clear hG;go_enter Try.func35,Try.ntmps35;go_wp2;go_loopw [8] (fun iv wr => ∃ (i : Nat),i ≤ n ∧ iv = .int .i64 i ∧ Hid (modGo (prevL l i) (l.drop i) = G) ∧ Ext w wr ∧ wr.cell? ⟨w.heap.size,0,none⟩ = some (.slice p n c) ∧ w.heap.size < wr.heap.size) (fun iv _ => n - (intOf iv).toNat)
 case atStart => exact ⟨0,by omega,rfl,by simpa [Hid,prevL] using HG.out,Ext.alloc _ _,by simp,by simp⟩
 case round =>
  obtain ⟨i,hi,rfl,HI,he,g0,hsz⟩ := hrel
  by_cases hlt : i < n
  · have hil : i < l.length := by rw [HL.out];exact hlt
    obtain ⟨ci,hci,ri⟩ := a5.get i l[i] (by simp);obtain ⟨pw,cw,pb,cb,rfl,l1,l2⟩ := lay_vals ri;have hst := HI.out;rw [modGo_at hil] at hst;have hs1 := a2.some_of a6 (by decide) (show 0 < css.length by omega);have hp := a2.ext he;generalize hD : l[i] = d at *;have HD := hid hD;clear hD;have C := hid (fun w1 => calls_retB (ValidLayer_any d.1 d.2.1 d.2.2.1 pw pb _ cw _ cb w1 l1 l2));have hne : w.heap.size ≠ wr.heap.size := by omega
    cases hb : layD d
    · have hG : G = false := by rw [← hst,hb];rfl
      subst hG;unfold layD at hb;rw [hb] at C;clear hb hst;go_wp2_with ((with_reducible show gx2);refine jax (s := jac) (j := i) rfl rfl rfl rfl (fun _ => rfl) rfl rfl rfl hp a6 a7 hlt hs1 hci ?_;simp only [ofCs,Sh.agg,if_true]);have E1 := (Ext.alloc wr (.cells #[.int .i64 d.1,.int .i64 d.2.1,.int .i64 d.2.2.1,.slice pw (List.length d.2.2.2.1) cw,.slice pb (List.length d.2.2.2.2.1) cb] 41)).trans (Ext.drew _);have gd := E1.cell g0;have hpd := hp.ext E1;obtain ⟨F,hF⟩ : ∃ F : Option Tmp → World → Value → Prop,F = fun _ _ u => u = .bool false := ⟨_,rfl⟩
      have HF := hid hF;clear hF;refine jae (F := F) (by kernel_rfl) (by kernel_rfl) (by kernel_rfl) ?_;intro wf hwf
      repeat (first
       | ((first | (refine ja8 rfl ?_) | (refine x_mv rfl rfl rfl ?_) | (refine x_as rfl rfl rfl ?_) | ((with_reducible show gx12);refine jap (f := 77) (args := #[.agg #[.int .i64 d.1,.int .i64 d.2.1,.int .i64 d.2.2.1,.slice pw (List.length d.2.2.2.1) cw,.slice pb (List.length d.2.2.2.2.1) cb]]) rfl rfl Try.func77 rfl (by kernel_rfl) ?_ ?_ ?_;(focus (simp [Act.eval];done));(focus (intro w1 hw1;exact (by rw [HF.out];exact C.out w1)));rintro u w3 e3 e4 hu;simp only [HF.out] at hu;subst hu));simp only [Act.put,jab,pu1,pu2,pu3,pu4,pu5])
       | (refine jbw rfl fun K hK w1 hw1 => ?_;have k0 := hw1.cellOf (b := wr.heap.size) (by simp);have k1 := hw1.cell (gd);go_simp;refine hK _ ?_;clear hK K k0 k1 hw1 w1))
      refine jbu ?_;go_wp2;go_ret;exact ⟨ret_bool (by simp),(he.trans E1).trans hwf⟩
    have hb2 := hb;unfold layD at hb2;rw [hb2] at C;rw [hb,Bool.true_and] at hst;clear hb hb2;rcases Nat.eq_zero_or_pos i with h0 | h0
    · subst h0
      have hst2 : modGo (prevL l 1) (l.drop 1) = G := by rw [← hst];simp [linkL,prevL]
      have Hst := hid hst2;clear hst hst2;go_wp2_with ((with_reducible show gx2);refine jax (s := jac) (j := 0) rfl rfl rfl rfl (fun _ => rfl) rfl rfl rfl hp a6 a7 hlt hs1 hci ?_;simp only [ofCs,Sh.agg,if_true]);have E1 := (Ext.alloc wr (.cells #[.int .i64 d.1,.int .i64 d.2.1,.int .i64 d.2.2.1,.slice pw (List.length d.2.2.2.1) cw,.slice pb (List.length d.2.2.2.2.1) cb] 41)).trans (Ext.drew _);have gd := E1.cell g0;have hpd := hp.ext E1;obtain ⟨F,hF⟩ : ∃ F : Option Tmp → World → Value → Prop,F = fun _ _ u => u = .bool true := ⟨_,rfl⟩
      have HF := hid hF;clear hF;refine jae (F := F) (by kernel_rfl) (by kernel_rfl) (by kernel_rfl) ?_;intro wf hwf
      repeat (first
       | ((first | (refine ja8 rfl ?_) | (refine x_mv rfl rfl rfl ?_) | (refine x_as rfl rfl rfl ?_) | ((with_reducible show gx12);refine jap (f := 77) (args := #[.agg #[.int .i64 d.1,.int .i64 d.2.1,.int .i64 d.2.2.1,.slice pw (List.length d.2.2.2.1) cw,.slice pb (List.length d.2.2.2.2.1) cb]]) rfl rfl Try.func77 rfl (by kernel_rfl) ?_ ?_ ?_;(focus (simp [Act.eval];done));(focus (intro w1 hw1;exact (by rw [HF.out];exact C.out w1)));rintro u w3 e3 e4 hu;simp only [HF.out] at hu;subst hu));simp only [Act.put,jab,pu1,pu2,pu3,pu4,pu5])
       | (refine jbw rfl fun K hK w1 hw1 => ?_;have k0 := hw1.cellOf (b := wr.heap.size) (by simp);have k1 := hw1.cell (gd);go_simp;refine hK _ ?_;clear hK K k0 k1 hw1 w1))
      refine jbu ?_;go_wp2;go_roundw
      case rel => exact ⟨1,by omega,by go_num,Hst.out,(he.trans E1).trans hwf,hwf.cell gd,by have := hwf.size;simp at this;omega⟩
      case measure => simp [intOf];omega
    · obtain ⟨j,rfl⟩ : ∃ j,i = j + 1 := ⟨i - 1,by omega⟩
      obtain ⟨cj,hcj,rj⟩ := a5.get j l[j] (by simp);obtain ⟨qw,dw,qb,db,rfl,_,_⟩ := lay_vals rj;have hlk : linkL (prevL l (j + 1)) d.2.1 = decide (d.2.1 = layO l[j]) := by simp [prevL,linkL,show j < l.length by omega]
      rw [hlk] at hst;have hA : IntKind.i64.wrap (((j + 1 : Nat) : Int) - 1) = (j : Int) := by rw [show ((j + 1 : Nat) : Int) - 1 = (j : Int) by omega];exact ja2 _ (by omega) (by omega)
      have hB : IntKind.i64.wrap ((j : Int) + 1 - 1) = (j : Int) := by rw [show (j : Int) + 1 - 1 = (j : Int) by omega];exact ja2 _ (by omega) (by omega)
      have hC : IntKind.i64.wrap (j : Int) = (j : Int) := ja2 _ (by omega) (by omega);clear hlk
      by_cases hq : d.2.1 = layO l[j]
      · have hst2 : modGo (prevL l (j + 1 + 1)) (l.drop (j + 1 + 1)) = G := by rw [← hst];simp [hq]
        have Hst := hid hst2;have Q := bne_f hq;unfold layO at Q;clear hst hst2 hq;go_wp2_with ((with_reducible show gx2);refine jax (s := jac) (j := j + 1) rfl rfl rfl rfl (fun _ => rfl) rfl rfl rfl hp a6 a7 hlt hs1 hci ?_;simp only [ofCs,Sh.agg,if_true]);have E1 := (Ext.alloc wr (.cells #[.int .i64 d.1,.int .i64 d.2.1,.int .i64 d.2.2.1,.slice pw (List.length d.2.2.2.1) cw,.slice pb (List.length d.2.2.2.2.1) cb] 41)).trans (Ext.drew _);have gd := E1.cell g0;have hpd := hp.ext E1;obtain ⟨F,hF⟩ : ∃ F : Option Tmp → World → Value → Prop,F = fun _ _ u => u = .bool true := ⟨_,rfl⟩
        have HF := hid hF;clear hF;refine jae (F := F) (by kernel_rfl) (by kernel_rfl) (by kernel_rfl) ?_;intro wf hwf
        repeat (first
         | ((first | (refine ja8 rfl ?_) | (refine x_mv rfl rfl rfl ?_) | (refine x_as rfl rfl rfl ?_) | ((with_reducible show gx13);refine x_ldField (f := 2) (j := j) (off := 2) rfl rfl (fun _ => rfl) rfl (fun _ _ => rfl) rfl (fun _ => rfl) (fun _ _ => rfl) fo_implLayer_2 rfl rfl (by omega) hpd a6 a7 (by omega) hs1 hcj rfl ?_) | ((with_reducible show gx12);refine jap (f := 77) (args := #[.agg #[.int .i64 d.1,.int .i64 d.2.1,.int .i64 d.2.2.1,.slice pw (List.length d.2.2.2.1) cw,.slice pb (List.length d.2.2.2.2.1) cb]]) rfl rfl Try.func77 rfl (by kernel_rfl) ?_ ?_ ?_;(focus (simp [Act.eval];done));(focus (intro w1 hw1;exact (by rw [HF.out];exact C.out w1)));rintro u w3 e3 e4 hu;simp only [HF.out] at hu;subst hu));simp only [Act.put,jab,pu1,pu2,pu3,pu4,pu5])
         | (refine jbw rfl fun K hK w1 hw1 => ?_;have k0 := hw1.cellOf (b := wr.heap.size) (by simp);have k1 := hw1.cell (gd);go_simp;refine hK _ ?_;clear hK K k0 k1 hw1 w1))
        refine jbu ?_;go_wp2;go_roundw
        case rel => exact ⟨j + 1 + 1,by omega,by go_num,Hst.out,(he.trans E1).trans hwf,hwf.cell gd,by have := hwf.size;simp at this;omega⟩
        case measure => simp [intOf];omega
      · have hG : G = false := by rw [← hst];simp [hq]
        subst hG;have Q := bne_t hq;unfold layO at Q;clear hst hq;go_wp2_with ((with_reducible show gx2);refine jax (s := jac) (j := j + 1) rfl rfl rfl rfl (fun _ => rfl) rfl rfl rfl hp a6 a7 hlt hs1 hci ?_;simp only [ofCs,Sh.agg,if_true]);have E1 := (Ext.alloc wr (.cells #[.int .i64 d.1,.int .i64 d.2.1,.int .i64 d.2.2.1,.slice pw (List.length d.2.2.2.1) cw,.slice pb (List.length d.2.2.2.2.1) cb] 41)).trans (Ext.drew _);have gd := E1.cell g0;have hpd := hp.ext E1;obtain ⟨F,hF⟩ : ∃ F : Option Tmp → World → Value → Prop,F = fun _ _ u => u = .bool true := ⟨_,rfl⟩
        have HF := hid hF;clear hF;refine jae (F := F) (by kernel_rfl) (by kernel_rfl) (by kernel_rfl) ?_;intro wf hwf
        repeat (first
         | ((first | (refine ja8 rfl ?_) | (refine x_mv rfl rfl rfl ?_) | (refine x_as rfl rfl rfl ?_) | ((with_reducible show gx13);refine x_ldField (f := 2) (j := j) (off := 2) rfl rfl (fun _ => rfl) rfl (fun _ _ => rfl) rfl (fun _ => rfl) (fun _ _ => rfl) fo_implLayer_2 rfl rfl (by omega) hpd a6 a7 (by omega) hs1 hcj rfl ?_) | ((with_reducible show gx12);refine jap (f := 77) (args := #[.agg #[.int .i64 d.1,.int .i64 d.2.1,.int .i64 d.2.2.1,.slice pw (List.length d.2.2.2.1) cw,.slice pb (List.length d.2.2.2.2.1) cb]]) rfl rfl Try.func77 rfl (by kernel_rfl) ?_ ?_ ?_;(focus (simp [Act.eval];done));(focus (intro w1 hw1;exact (by rw [HF.out];exact C.out w1)));rintro u w3 e3 e4 hu;simp only [HF.out] at hu;subst hu));simp only [Act.put,jab,pu1,pu2,pu3,pu4,pu5])
         | (refine jbw rfl fun K hK w1 hw1 => ?_;have k0 := hw1.cellOf (b := wr.heap.size) (by simp);have k1 := hw1.cell (gd);go_simp;refine hK _ ?_;clear hK K k0 k1 hw1 w1))
        refine jbu ?_;go_wp2;go_ret;exact ⟨ret_bool (by simp),(he.trans E1).trans hwf⟩
  · obtain rfl : i = n := by omega
    have hst := HI.out;rw [List.drop_of_length_le (by rw [HL.out];exact Nat.le_refl _)] at hst;have hst2 : G = true := by rw [← hst];simp [modGo]
    subst hst2;have hL := HL.out
    by_cases h1 : 1 ≤ i
    · by_cases h6 : i ≤ 6
      · have h6' : (i : Int) ≤ 6 := by omega
        go_wp2;go_ret;exact ⟨ret_bool (by first | rfl | (rw [hL];simp [h1,h6,h6'])),he⟩
      · have h6' : ¬ (i : Int) ≤ 6 := by omega
        go_wp2;go_ret;exact ⟨ret_bool (by first | rfl | (rw [hL];simp [h1,h6,h6'])),he⟩
    · go_wp2
      go_ret;exact ⟨ret_bool (by first | rfl | (rw [hL];simp [h1])),he⟩
def curF (l : List jac.T) (x : List Nat) (i : Nat) : List Nat := (l.take i).foldl (fun y d => layF d y) x
theorem curF_zero (l : List jac.T) (x : List Nat) : curF l x 0 = x := rfl
theorem curF_succ {l : List jac.T} (x : List Nat) {i : Nat} (h : i < l.length) : curF l x (i + 1) = layF l[i] (curF l x i) := by
 unfold curF;rw [List.take_add_one,List.getElem?_eq_getElem h,List.foldl_append];rfl
def inL (l : List jac.T) (i : Nat) : Int := (l[i]?.map fun d => d.2.1).getD 0
def outL (l : List jac.T) : Int := (l[l.length - 1]?.map fun d => d.2.2.1).getD 0
theorem modGo_all {l : List jac.T} : ∀ {i : Nat} {p : Option Int},modGo p l = true → ∀ (h : i < l.length),layD l[i] = true ∧ ∀ (h' : i + 1 < l.length),l[i + 1].2.1 = l[i].2.2.1 := by
 induction l with
 | nil => intro i p _ h;simp at h
 | cons d t ih =>
   intro i p hm h;simp only [modGo,Bool.and_eq_true] at hm;obtain ⟨h1,h2,h3⟩ := hm
   cases i with
   | zero =>
     refine ⟨h1,fun h' => ?_⟩
     cases t with
     | nil => simp at h'
     | cons d2 t2 =>
       simp only [modGo,Bool.and_eq_true,linkL,decide_eq_true_eq] at h3;exact h3.2.1
   | succ i =>
     have := ih (i := i) h3 (by simpa using h)
     simpa using this
structure ModOk (l : List jac.T) : Prop where
 pos : 1 ≤ l.length
 few : l.length ≤ 6
 lay : ∀ i (h : i < l.length),layD l[i] = true
 link : ∀ i (h : i + 1 < l.length),l[i + 1].2.1 = (l[i]'(by omega)).2.2.1
theorem modOk {l : List jac.T} (h : modB l = true) : ModOk l := by
 unfold modB at h;simp only [Bool.and_eq_true,decide_eq_true_eq] at h;obtain ⟨h1,h2,h3⟩ := h;exact ⟨h1,h2,fun i hi => (modGo_all h3 hi).1,fun i hi => (modGo_all h3 (by omega)).2 hi⟩
theorem cur_len {l : List jac.T} (h : ModOk l) {x : List Nat} (hx : (x.length : Int) = inL l 0) : ∀ i (hi : i < l.length),((curF l x i).length : Int) = l[i].2.1
 | 0,hi => by rw [curF_zero,hx];unfold inL;simp [hi]
 | i + 1,hi => by
   rw [curF_succ x (by omega),h.link i hi];exact layF_len (h.lay i (by omega)) (cur_len h hx i (by omega))
theorem cur_out {l : List jac.T} (h : ModOk l) {x : List Nat} (hx : (x.length : Int) = inL l 0) : ((curF l x l.length).length : Int) = outL l := by
 have hp := h.pos;obtain ⟨n,hn⟩ : ∃ n,l.length = n + 1 := ⟨l.length - 1,by omega⟩
 have h1 : ((curF l x (n + 1)).length : Int) = (l[n]'(by omega)).2.2.1 := by
  rw [curF_succ x (by omega)];exact layF_len (h.lay n (by omega)) (cur_len h hx n (by omega))
 unfold outL;rw [hn,h1];simp [show n < l.length by omega]
def stF (l : List jac.T) (x : List Nat) (i : Nat) : List (List Nat) := (List.range i).map fun j => curF l x (j + 1)
theorem stF_len (l : List jac.T) (x : List Nat) (i : Nat) : (stF l x i).length = i := by simp [stF]
theorem stF_succ (l : List jac.T) (x : List Nat) (i : Nat) : stF l x (i + 1) = stF l x i ++ [curF l x (i + 1)] := by simp [stF,List.range_succ]
theorem retFl_thing {w w' : World} {xs : List Nat} {e : Ending} (h : RetFl w xs e w') : ∃ q c bs,e = .returned (.slice q xs.length c) ∧ Own w' (.sl .flt) [.slice q xs.length c] xs bs ∧ bs.Nodup ∧ (∀ b ∈ bs,w.heap.size ≤ b) ∧ Ext w w' := by
 obtain ⟨q,c,vs,he,ho,hf,hx⟩ := h;refine ⟨q,c,jaj q,he,own_flts.2 ⟨q,c,vs,rfl,ownRow_of ho,hf,(jbb ho).1,(jbb ho).2,rfl⟩,?_,?_,hx⟩
 · cases q <;> simp [jaj]
 · intro b hb
   cases q with
   | none => simp [jaj] at hb
   | some a => simp [jaj] at hb;subst hb;exact jas ho _ rfl
theorem rep_flt1 {w : World} {q : Option Addr} {n c : Nat} {xs : List Nat} (h : Rep w (.sl .flt) [.slice q n c] xs) : ∃ us,xs.length = n ∧ Cs w q us ∧ F32s us xs ∧ xs.length ≤ c := by
 obtain ⟨q',c',us,h1,h2,h3,h4,_⟩ := jco.1 h;simp only [List.cons.injEq,Value.slice.injEq,and_true] at h1;obtain ⟨rfl,rfl,rfl⟩ := h1;exact ⟨us,rfl,h2,h3,h4⟩
theorem GrowOwn.last {w : World} {B : Nat} {te : TypeId} {E : Sh} {v : Value} {l : List E.T} {css : List (List Value)} {bss : List (List Nat)} {cs : List Value} {d : E.T} {bs : List Nat} (h : GrowOwn w B te E v (l ++ [d]) (css ++ [cs]) (bss ++ [bs])) (h1 : css.length = l.length) (h2 : bss.length = l.length) : Rep w E cs d :=
 (h.els.2.2 l.length cs bs d (by rw [← h1];simp) (by rw [← h2];simp) (by simp)).rep
theorem stages_any (p q0 : Option Addr) (n c m0 c0 : Nat) (css : List (List Value)) (l : List jac.T) (x : List Nat) (w : World) (L : Lays w p n css l) (hM : ModOk l) (hX : Rep w (.sl .flt) [.slice q0 m0 c0] x) (hx : (x.length : Int) = inL l 0) :
 Calls Try.prog 79 #[.agg #[.slice p n c],.slice q0 m0 c0] w fun e w' => ∃ v css bss,e = .returned v ∧ GrowOwn w' w.heap.size 25 (.sl .flt) v (stF l x n) css bss ∧ Ext w w' := by
 have hn : n ≤ 6 := by have := hM.few;rw [L.len] at this;exact this
 have HL := hid L.len;have Hlay := hid hM.lay;have Hlen := hid (cur_len hM hx);have Hs := hid (fun i => @curF_succ l x i);have eA := Ext.alloc w (.cells #[.slice p n c] 38);have eB := eA.trans (Ext.alloc _ (.cells #[] 25));have hstart : ((w.alloc (.cells #[.slice p n c] 38)).alloc (.cells #[] 25)).ownsRow w.heap.size 25 (Sh.sz (.sl .flt)) (.slice (some ⟨(w.alloc (.cells #[.slice p n c] 38)).heap.size,0,none⟩) 0 0) 0 [] := World.ownsRow_made (w.alloc (.cells #[.slice p n c] 38)) #[] 0 eA.size (by decide) rfl;simp only [World.size_alloc] at hstart;have l1 := L.cs;have l2 := L.all;have l3 := L.size;have l4 := L.one;have l5 := hid L.cnt;clear L hM hx;go_enter Try.func79,Try.ntmps79;go_wp2;go_loopw [1,5,12] (fun xv ov iv wr => ∃ (i : Nat) (css : List (List Value)) (bss : List (List Nat)) (q : Option Addr) (mq cq : Nat),i ≤ n ∧ iv = .int .i64 i ∧ xv = .slice q mq cq ∧ Hid (Rep wr (.sl .flt) [.slice q mq cq] (curF l x i)) ∧ GrowOwn wr w.heap.size 25 (.sl .flt) ov (stF l x i) css bss ∧ Ext w wr) (fun _ _ iv _ => n - (intOf iv).toNat)
 case atStart => exact ⟨0,[],[],q0,m0,c0,by omega,rfl,rfl,hX.ext eB,GrowOwn.empty hstart,eB⟩
 case round =>
  clear hstart eA eB;obtain ⟨i,cs,bss,q,mq,cq,hi,rfl,rfl,HX,hown,he⟩ := hrel
  by_cases hlt : i < n
  · have hil : i < l.length := by rw [HL.out];exact hlt
    obtain ⟨ci,hci,ri⟩ := l2.get i l[i] (by simp);have L1 := hid ri.size;have O1 := hid ri.one;have hs1 := l1.some_of l3 (by decide) (show 0 < css.length by rw [l5.out];omega);have hp := l1.ext he;obtain ⟨us,x1,x2,x3,_⟩ := rep_flt1 HX.out;have hlen := Hlen.out i hil;rw [x1] at hlen;have C := hid (fun W (h : Ext wr W) => run_lay ci l[i] q mq cq us (curF l x i) W (ri.ext (he.trans h)) (Hlay.out i hil) x1 hlen (x2.ext h) x3);rw [← Hs.out i hil] at C;have hrow := hown.row;rw [stF_len] at hrow;clear x1 x2 x3 hlen ri;have E1 := hid hci;clear hci;go_wp2_with (first | ((with_reducible show gx2);refine jax (s := jac) (j := i) rfl rfl rfl rfl (fun _ => rfl) rfl rfl rfl hp l3 l5.out hlt hs1 E1.out ?_) | ((with_reducible show gx9);refine wl_stA (s := jac) (cs := ci) rfl rfl rfl rfl (heap_alloc_new _ _) rfl L1.out O1.out (by decide) ?_;intro w5 c5 ch5;have E5 : Ext wr w5 := (Ext.alloc _ _).chg ch5 (fun b hb => by subst hb;exact Nat.le_refl _);clear ch5) | ((with_reducible show gx11);refine wl_ldA (s := jac) (cs := ci) rfl rfl rfl c5 L1.out ?_;simp only [ofCs,Sh.agg,if_true]));refine (C.out _ E5).mono ?_;intro e w6 h6;obtain ⟨q6,c6,b6,rfl,o6,n6,lo6,e6⟩ := retFl_thing h6;have E6 := E5.trans e6;obtain ⟨m6,hm6⟩ : ∃ m,m = (curF l x (i + 1)).length := ⟨_,rfl⟩;rw [← hm6] at o6 ⊢;have HM6 := hid hm6;clear hm6;go_wp2_with ((with_reducible show gx6);refine ja9 (u := .slice q6 m6 c6) rfl rfl rfl rfl rfl (by rfl) (by rfl) (fun _ => rfl) (fun _ => rfl) (jah hrow E6) (by unfold maxLen;omega) (by omega) (by have := he.size;have := E6.size;omega) ?_;intro g c w7 h7 g7 hw7);go_roundw
    case rel =>
     have k1 := hown.els.1;have k2 := hown.els.2.1;have H7 := hown.snoc E6 o6 n6 (fun b hb => Nat.le_trans E5.size (lo6 b hb)) he.size (stF_len _ _ _) h7 g7 hw7;refine ⟨i + 1,cs ++ [[.slice q6 m6 c6]],bss ++ [b6],q6,m6,c6,by omega,by go_num,rfl,H7.last k1 k2,?_,(he.trans E6).grown g7 (jas hrow)⟩;rw [stF_succ];exact H7
    case measure => simp [intOf];omega
  · obtain rfl : n = i := by omega
    go_wp2;go_ret;exact ⟨_,cs,bss,rfl,hown,he⟩
theorem Lays.at {w : World} {p : Option Addr} {n : Nat} {css : List (List Value)} {l : List jac.T} (h : Lays w p n css l) {i : Nat} (hi : i < n) : ∃ ci,css[i]? = some ci ∧ ci[1]? = some (.int .i64 (inL l i)) ∧ ci[2]? = some (.int .i64 ((l[i]?.map fun d => d.2.2.1).getD 0)) ∧ p.isSome = true := by
 have hl := h.len;obtain ⟨ci,hci,ri⟩ := h.all.get i (l[i]'(by omega)) (by simp);have hs := h.cs.some_of h.size (by decide) (show i < css.length by rw [h.cnt];exact hi);obtain ⟨pw,cw,pb,cb,rfl,_,_⟩ := lay_vals ri;exact ⟨_,hci,by unfold inL;simp [show i < l.length by omega],by simp [show i < l.length by omega],hs⟩
theorem in_any (p : Option Addr) (n c : Nat) (css : List (List Value)) (l : List jac.T) (w : World) (L : Lays w p n css l) (h1 : 1 ≤ n) : Calls Try.prog 70 #[.agg #[.slice p n c]] w fun e w' => e = .returned (.int .i64 (inL l 0)) ∧ Ext w w' := by
 obtain ⟨ci,k1,k2,_,k4⟩ := L.at (i := 0) (by omega);have l1 := L.cs.ext (Ext.alloc w (.cells #[.slice p n c] 38));have l3 := L.size;have l5 := hid L.cnt;generalize inL l 0 = v at *;clear L;have K1 := hid k1;have K2 := hid k2;clear k1 k2;go_enter Try.func70,Try.ntmps70;go_wp2_with ((with_reducible show gx14);refine wl_ldField (f := 1) (off := 1) (j := 0) rfl rfl rfl rfl rfl rfl (fun _ => rfl) (fun _ _ => rfl) fo_implLayer_1 rfl rfl rfl l1 l3 l5.out (by omega) k4 K1.out K2.out ?_);go_ret;exact ⟨rfl,Ext.alloc _ _⟩
theorem outL_eq {l : List jac.T} {n : Nat} (h : l.length = n) : ((l[n - 1]?.map fun d => d.2.2.1).getD 0) = outL l := by subst h;rfl
theorem out_any (p : Option Addr) (n c : Nat) (css : List (List Value)) (l : List jac.T) (w : World) (L : Lays w p n css l) (h1 : 1 ≤ n) : Calls Try.prog 98 #[.agg #[.slice p n c]] w fun e w' => e = .returned (.int .i64 (outL l)) ∧ Ext w w' := by
 obtain ⟨ci,k1,_,k2,k4⟩ := L.at (i := n - 1) (by omega);rw [outL_eq L.len] at k2;have hn := L.le;unfold maxLen at hn;have l1 := L.cs.ext (Ext.alloc w (.cells #[.slice p n c] 38));have l3 := L.size;have l5 := hid L.cnt;generalize outL l = v at *;clear L;have K1 := hid k1;have K2 := hid k2;clear k1 k2;go_enter Try.func98,Try.ntmps98;go_wp2_with ((with_reducible show gx14);refine wl_ldField (f := 2) (off := 2) (j := n - 1) rfl rfl rfl rfl rfl rfl (fun _ => rfl) (fun _ _ => rfl) fo_implLayer_2 rfl rfl (by omega) l1 l3 l5.out (by omega) k4 K1.out K2.out ?_);go_ret;exact ⟨rfl,Ext.alloc _ _⟩
def rowT (xs : List Nat) (c i : Nat) : List Nat := (xs.take ((i + 1) * c)).drop (i * c)
theorem row_le {r c i : Nat} (hi : i < r) : (i + 1) * c ≤ r * c := Nat.mul_le_mul_right c hi
theorem rowT_len {xs : List Nat} {c i r : Nat} (h : xs.length = r * c) (hi : i < r) : (rowT xs c i).length = c := by
 unfold rowT;rw [List.length_drop,List.length_take,h,Nat.min_eq_left (row_le hi),Nat.add_mul];omega
def rowsM (l : List jac.T) (xs : List Nat) (c r : Nat) : List Nat := ((List.range r).map fun i => curF l (rowT xs c i) l.length).flatten
theorem rowsM_zero (l : List jac.T) (xs : List Nat) (c : Nat) : rowsM l xs c 0 = [] := rfl
theorem rowsM_succ (l : List jac.T) (xs : List Nat) (c r : Nat) : rowsM l xs c (r + 1) = rowsM l xs c r ++ curF l (rowT xs c r) l.length := by
 simp [rowsM,List.range_succ]
theorem rowsM_len {l : List jac.T} {xs : List Nat} {c R m : Nat} (hM : ModOk l) (hc : (c : Int) = inL l 0) (hm : (m : Int) = outL l) (hx : xs.length = R * c) : ∀ r,r ≤ R → (rowsM l xs c r).length = r * m
 | 0,_ => by simp [rowsM_zero]
 | r + 1,h => by
   have h1 := cur_out hM (x := rowT xs c r) (by rw [rowT_len hx (by omega)];exact hc);rw [rowsM_succ,List.length_append,rowsM_len hM hc hm hx r (by omega),Nat.add_mul];omega
theorem outL_nat {l : List jac.T} (hM : ModOk l) : ∃ m : Nat,(m : Int) = outL l ∧ 1 ≤ m ∧ m ≤ 8 := by
 have hp := hM.pos;obtain ⟨n,hn⟩ : ∃ n,l.length = n + 1 := ⟨l.length - 1,by omega⟩;have h1 := layD_int (hM.lay n (by omega))
 have h2 : outL l = (l[n]'(by omega)).2.2.1 := by
  unfold outL;simp [hn,show n < l.length by omega]
 exact ⟨(outL l).toNat,by omega,by omega,by omega⟩
theorem tenB_of {r c : Int} {n : Nat} (h : tenB r c n = true) : ∃ R C : Nat,r = R ∧ c = C ∧ 1 ≤ R ∧ R ≤ 16 ∧ 1 ≤ C ∧ C ≤ 16 ∧ n = R * C := by
 unfold tenB at h;simp only [Bool.and_eq_true,jar,decide_eq_true_eq] at h;obtain ⟨⟨h1,h2⟩,h3⟩ := h;obtain ⟨R,rfl⟩ := Int.eq_ofNat_of_zero_le (show 0 ≤ r by omega);obtain ⟨C,rfl⟩ := Int.eq_ofNat_of_zero_le (show 0 ≤ c by omega);exact ⟨R,C,rfl,rfl,by omega,by omega,by omega,by omega,by exact_mod_cast h3⟩
theorem cell_le {R C i : Nat} (hi : i < R) (hR : R ≤ 16) (hC : C ≤ 16) : (i + 1) * C ≤ R * C ∧ R * C ≤ 256 ∧ i * C ≤ (i + 1) * C ∧ (i + 1) * C - i * C = C := by
 have h1 := row_le (c := C) hi;have h2 := Nat.mul_le_mul hR hC;rw [Nat.add_mul] at *;omega
theorem own_ten {w : World} {r c : Int} {q : Option Addr} {n cp : Nat} {xs : List Nat} {bs : List Nat} (e : xs.length = n) (h : Own w (.sl .flt) [.slice q n cp] xs bs) : Own w jaa [.int .i64 r,.int .i64 c,.slice q n cp] (r,c,xs,()) bs := by
 subst e;exact ⟨[.int .i64 r],[.int .i64 c,.slice q xs.length cp],[],bs,rfl,⟨rfl,rfl⟩,⟨[.int .i64 c],[.slice q xs.length cp],[],bs,rfl,⟨rfl,rfl⟩,⟨[.slice q xs.length cp],[],bs,[],rfl,h,⟨rfl,rfl⟩,by simp⟩,rfl⟩,rfl⟩
theorem jay {w : World} {cs : List Value} {d : jaa.T} (h : Rep w jaa cs d) : ∃ p c us,cs = [.int .i64 d.1,.int .i64 d.2.1,.slice p d.2.2.1.length c] ∧ Cs w p us ∧ F32s us d.2.2.1 ∧ (d.2.2.1 : List Nat).length ≤ c ∧ c ≤ maxLen := by
 obtain ⟨d1,d2,d3,_⟩ := d;obtain ⟨_,_,rfl,rfl,_,_,rfl,rfl,_,_,rfl,h3,rfl⟩ := h;obtain ⟨p,c,us,rfl,hp,hf,hc,hn⟩ := jco.1 h3;exact ⟨p,c,us,rfl,hp,hf,hc,hn⟩
theorem retFl_nil {w w' : World} {e : Ending} (he : e = .returned (.slice none 0 0)) (hx : Ext w w') : RetFl w [] e w' :=
 ⟨none,0,[],he,⟨rfl,.inl ⟨rfl,rfl⟩⟩,F32s.nil,hx⟩
theorem cloneF_any (p : Option Addr) (n c : Nat) (us : List Value) (xs : List Nat) (w : World) (hx : xs.length = n) (hn : n ≤ 1073741824) (hc : n ≤ c) (hp : Cs w p us) (hf : F32s us xs) : Calls Try.prog 93 #[.slice p n c] w (RetFl w xs) := by
 have o1 := hid hf.one;have u1 := hf.1
 cases p with
 | none =>
   have h0 : us = [] := Classical.byContradiction fun h => by have := hp.isS h;simp at this
   subst h0;obtain rfl : xs = [] := List.eq_nil_of_length_eq_zero (by simpa using u1.symm);obtain rfl : n = 0 := by simpa using hx.symm
   clear hp hf o1 u1;go_enter Try.func93,Try.ntmps93;go_wp2;go_ret;exact retFl_nil rfl (Ext.refl _)
 | some ad =>
   have hstart : (w.alloc (.cells #[] 33)).ownsRow w.heap.size 33 1 (.slice (some ⟨w.heap.size,0,none⟩) 0 0) 0 [] := World.ownsRow_made w #[] 0 (Nat.le_refl _) (by decide) rfl;have e0 := Ext.alloc w (.cells #[] 33);have HX := hid hx;have U1 := hid u1;clear hx u1;go_enter Try.func93,Try.ntmps93;go_wp2_with ((with_reducible show gx5);refine wl_appz rfl rfl rfl rfl hstart (hp.ext e0) (by rw [U1.out,HX.out,Nat.mul_one]) hc o1.out (by unfold maxLen;omega) (by omega) (by simp) ?_;intro v1 w1 own1 g1);go_ret;rw [Nat.zero_add,List.nil_append] at own1;exact retFl_of HX.out own1 hf rfl (e0.grown g1 (fun k hk => jas hstart k hk))
theorem row_any (R C i n cp : Nat) (p : Option Addr) (w : World) (hi : i < R) (hR : R ≤ 16) (hC : C ≤ 16) (hn : n = R * C) (hcp : n ≤ cp) :
 Calls Try.prog 114 #[.agg #[.int .i64 R,.int .i64 C,.slice p n cp],.int .i64 i] w fun e w' => e = .returned (.slice (subp p 1 (i * C) cp) C (cp - i * C)) ∧ Ext w w' := by
 obtain ⟨h1,h2,h3,h4⟩ := cell_le (C := C) hi hR hC;have q1 : IntKind.i64.wrap ((i : Int) * C) = ((i * C : Nat) : Int) := by rw [← Int.natCast_mul];exact ja2 _ (by omega) (by omega)
 have q2 : IntKind.i64.wrap ((i : Int) + 1) = ((i + 1 : Nat) : Int) := by rw [show (i : Int) + 1 = ((i + 1 : Nat) : Int) by omega];exact ja2 _ (by omega) (by omega)
 have q3 : IntKind.i64.wrap (((i : Int) + 1) * C) = (((i + 1) * C : Nat) : Int) := by rw [show ((i : Int) + 1) * C = (((i + 1) * C : Nat) : Int) by push_cast;rfl];exact ja2 _ (by omega) (by omega)
 generalize hA : i * C = A at *;generalize hB : (i + 1) * C = B at *;have h5 : A ≤ B := h3;have h6 : B ≤ cp := by omega
 have H4 := hid h4;clear hA hB;go_enter Try.func114,Try.ntmps114;go_wp2_with (refine wl_slice (l := A) (u := B) rfl rfl rfl rfl rfl (by first | rfl | exact q1) (by first | rfl | exact q3) h5 h6 ?_);go_ret;exact ⟨rfl,Ext.alloc _ _⟩
def IsFl (B : Nat) (xs : List Nat) (w : World) (u : Value) : Prop := ∃ q c vs,u = .slice q xs.length c ∧ w.ownsRow B 33 1 (.slice q xs.length c) xs.length vs ∧ F32s vs xs
theorem IsFl.ext {B : Nat} {xs : List Nat} {w w' : World} {u : Value} (h : IsFl B xs w u) (e : Ext w w') : IsFl B xs w' u := by
 obtain ⟨q,c,vs,h1,h2,h3⟩ := h;exact ⟨q,c,vs,h1,jah h2 e,h3⟩
theorem IsFl.base {B B' : Nat} {xs : List Nat} {w : World} {u : Value} (h : IsFl B xs w u) (hB : B' ≤ B) : IsFl B' xs w u := by
 obtain ⟨q,c,vs,h1,h2,h3⟩ := h;exact ⟨q,c,vs,h1,jak h2 hB,h3⟩
theorem row_cs {w : World} {p : Option Addr} {us : List Value} {C i cp : Nat} (hp : Cs w p us) (h : (i + 1) * C ≤ cp) : Cs w (subp p 1 (i * C) cp) ((us.take ((i + 1) * C)).drop (i * C)) := by
 have := hp.sub (s := 1) (l := i * C) (hi := (i + 1) * C) (c := cp) (by rw [Nat.add_mul];omega) h
 simpa only [Nat.mul_one] using this
end Go.Proofs.Ytmbckkcgiafagaa
