/- A part of the proofs: HTensor, Ten, Agg, Lay, Lay2, Fcell. -/
import Derived.Test.YtlimabbeaimdgaaGreatZ04Shared
import Derived.IntWalk
import Derived.Test.YtlimabbeaimdgaaGreatZ02Shared
set_option linter.unusedSimpArgs false
set_option linter.unusedVariables false
set_option maxRecDepth 100000
set_option maxHeartbeats 16000000
namespace Go.Proofs.YtlimabbeaimdgaaGreat
open Go.RowKit
abbrev jaa : Sh := .pr .int (.pr .int (.pr (.sl .flt) (.un)))
theorem jdi (q : Addr) (w : World) : (Instr.fieldAt 37 (.pointer (some q)) 0).run Tryz.prog w = .ok (.pointer (some (q.add 0))) w := by go_simp
theorem jdl (q : Addr) (w : World) : (Instr.fieldAt 37 (.pointer (some q)) 1).run Tryz.prog w = .ok (.pointer (some (q.add 1))) w := by go_simp
theorem jdp (q : Addr) (w : World) : (Instr.fieldAt 37 (.pointer (some q)) 2).run Tryz.prog w = .ok (.pointer (some (q.add 2))) w := by go_simp
instance elStTensorimpl : ElTy Tryz.prog 37 jaa := ⟨by kernel_rfl,by kernel_rfl⟩
instance elStTensorlaws : ElTy Tryz.prog 27 jaa := ⟨by kernel_rfl,by kernel_rfl⟩
theorem eqTensor_ok : EqOk 15 jaa := by
 intro cs cs' d w hu hv hn;obtain ⟨a1,a2,a3,au⟩ := d;obtain ⟨_,_,rfl,rfl,_,_,rfl,rfl,_,_,rfl,ha3,rfl⟩ := hu;obtain ⟨pa3,ca3,rfl,hla3⟩ := jbb ha3;obtain ⟨_,_,rfl,rfl,_,_,rfl,rfl,_,_,rfl,hqa3,rfl⟩ := hv;obtain ⟨pqa3,cqa3,rfl,hlqa3⟩ := jbb hqa3;have hba3 : tot (.sl .flt) a3 ≤ 1048576 := by simp only [tot] at hn ⊢;omega
 simp only [ofCs,Sh.agg,List.cons_append,List.nil_append,if_true];go_enter Tryz.func15,Tryz.ntmps15;go_wp2_with fail;refine (jcy [.slice pa3 (List.length a3) ca3] [.slice pqa3 (List.length a3) cqa3] a3 _ (Rep.ext (w := w) ?_ (ha3 : Rep w (.sl .flt) [.slice pa3 (List.length a3) ca3] a3)) (Rep.ext (w := w) ?_ (hqa3 : Rep w (.sl .flt) [.slice pqa3 (List.length a3) cqa3] a3)) hba3).mono ?_
 · (repeat (first | (with_reducible first | exact Ext.refl _ | assumption) | ((with_reducible refine Ext.setCell ?_ ?_ _);rotate_left;focus (first | (simp;done) | (simp;omega))) | (with_reducible first | refine px1 ?_ _ | refine px2 ?_ | refine Ext.trans ?_ (by assumption))))
 · (repeat (first | (with_reducible first | exact Ext.refl _ | assumption) | ((with_reducible refine Ext.setCell ?_ ?_ _);rotate_left;focus (first | (simp;done) | (simp;omega))) | (with_reducible first | refine px1 ?_ _ | refine px2 ?_ | refine Ext.trans ?_ (by assumption))))
 rintro e w1 ⟨rfl,e1⟩
 have x1_0 := e1.cellOf (b := w.heap.size) (by first | (simp;done) | (simp;omega));have x1_1 := e1.cellOf (b := w.heap.size + 1) (by first | (simp;done) | (simp;omega));have y1 := e1.size;go_wp2;go_ret;refine ⟨rfl,?_⟩
 (repeat (first | (with_reducible first | exact Ext.refl _ | assumption) | ((with_reducible refine Ext.setCell ?_ ?_ _);rotate_left;focus (first | (simp;done) | (simp;omega))) | (with_reducible first | refine px1 ?_ _ | refine px2 ?_ | refine Ext.trans ?_ (by assumption))))
theorem szTensor_ok : SzOk 7 jaa := by
 intro cs d left w hu hl0 hl1;obtain ⟨a1,a2,a3,au⟩ := d;obtain ⟨_,_,rfl,rfl,_,_,rfl,rfl,_,_,rfl,ha3,rfl⟩ := hu;obtain ⟨pa3,ca3,rfl,hla3⟩ := jbb ha3;simp only [ofCs,Sh.agg,List.cons_append,List.nil_append,if_true];generalize hT : tot jaa (a1,a2,a3,au) = T;have HT := hid hT;clear hT;go_enter Tryz.func7,Tryz.ntmps7;go_wp2_with fail;refine (szFloat32S_ok [.slice pa3 (List.length a3) ca3] a3 left _ (Rep.ext (w := w) ?_ (ha3 : Rep w (.sl .flt) [.slice pa3 (List.length a3) ca3] a3)) (by omega) (by omega)).mono ?_
 · (repeat (first | (with_reducible first | exact Ext.refl _ | assumption) | ((with_reducible refine Ext.setCell ?_ ?_ _);rotate_left;focus (first | (simp;done) | (simp;omega))) | (with_reducible first | refine px1 ?_ _ | refine px2 ?_ | refine Ext.trans ?_ (by assumption))))
 rintro e w1 ⟨⟨r1,rfl,hr1⟩,e1⟩
 have x1_0 := e1.cellOf (b := w.heap.size) (by first | (simp;done) | (simp;omega));have y1 := e1.size
 by_cases hn1 : r1 < 0
 · go_wp2
   go_ret;refine ⟨⟨-1,rfl,.inl (by omega)⟩,?_⟩
   (repeat (first | (with_reducible first | exact Ext.refl _ | assumption) | ((with_reducible refine Ext.setCell ?_ ?_ _);rotate_left;focus (first | (simp;done) | (simp;omega))) | (with_reducible first | refine px1 ?_ _ | refine px2 ?_ | refine Ext.trans ?_ (by assumption))))
 have hq1 : r1 = left - (tot (.sl .flt) a3 : Int) := by rcases hr1 with h | h;exact absurd h hn1;exact h.1
 have Hq1 := hid hq1;have hz1 : 0 ≤ r1 := by omega
 have ht1 : r1 ≤ 1048576 := by omega
 clear hr1 hq1;go_wp2;go_ret;refine ⟨⟨_,rfl,.inr ⟨?_,by omega⟩⟩,?_⟩
 · have h0 := HT.out
   simp only [tot] at h0;have h1 := Hq1.out;simp only [tot] at h1;omega
 · (repeat (first | (with_reducible first | exact Ext.refl _ | assumption) | ((with_reducible refine Ext.setCell ?_ ?_ _);rotate_left;focus (first | (simp;done) | (simp;omega))) | (with_reducible first | refine px1 ?_ _ | refine px2 ?_ | refine Ext.trans ?_ (by assumption))))
theorem jcu : ToOk 10 jaa := by
 intro cs d w hu hn;obtain ⟨a1,a2,a3,au⟩ := d;obtain ⟨_,_,rfl,rfl,_,_,rfl,rfl,_,_,rfl,ha3,rfl⟩ := hu;obtain ⟨pa3,ca3,rfl,hla3⟩ := jbb ha3;have hba3 : tot (.sl .flt) a3 ≤ 1048576 := by simp only [tot] at hn ⊢;omega
 simp only [ofCs,Sh.agg,List.cons_append,List.nil_append,if_true];go_enter Tryz.func10,Tryz.ntmps10;go_wp2_with fail;refine (toFloat32S_ok [.slice pa3 (List.length a3) ca3] a3 _ (Rep.ext (w := w) ?_ (ha3 : Rep w (.sl .flt) [.slice pa3 (List.length a3) ca3] a3)) hba3).mono ?_
 · (repeat (first | (with_reducible first | exact Ext.refl _ | assumption) | ((with_reducible refine Ext.setCell ?_ ?_ _);rotate_left;focus (first | (simp;done) | (simp;omega))) | (with_reducible first | refine px1 ?_ _ | refine px2 ?_ | refine Ext.trans ?_ (by assumption))))
 rintro e w1 ⟨cs1,bs1,rfl,owna3,nd1,lo1,e1⟩
 obtain ⟨pqa3,cqa3,rfl,glqa3⟩ := jbb owna3.rep;have hqa3 := owna3.rep;simp only [ofCs,Sh.agg,List.headD_cons,Bool.false_eq_true,if_false];have x1_0 := e1.cellOf (b := w.heap.size) (by first | (simp;done) | (simp;omega));have x1_1 := e1.cellOf (b := w.heap.size + 1) (by first | (simp;done) | (simp;omega));have x1_2 := e1.cellOf (b := w.heap.size + 2) (by first | (simp;done) | (simp;omega));have y1 := e1.size;go_wp2;refine bodyPost_ret (v := .agg #[.int .i64 a1,.int .i64 a2,.slice pqa3 (List.length a3) cqa3]) (by simp [results,Tryz.results10,go_sem,x1_0,x1_1,x1_2,y1]) rfl ?_;generalize hW : World.setCell _ _ _ = W;have eW : Ext w W := by subst hW;(repeat (first | (with_reducible first | exact Ext.refl _ | assumption) | ((with_reducible refine Ext.setCell ?_ ?_ _);rotate_left;focus (first | (simp;done) | (simp;omega))) | (with_reducible first | refine px1 ?_ _ | refine px2 ?_ | refine Ext.trans ?_ (by assumption))))
 have ch1 : Chg (fun b => b < w.heap.size + 3) w1 W := by subst hW;(repeat (first | (with_reducible first | exact Chg.refl _ _ | exact Chg.of_ext (by assumption) | assumption) | ((with_reducible refine Chg.setCell ?_ ?_ _);rotate_left;focus (first | (simp;done) | (simp;omega))) | (with_reducible first | refine Chg.alloc ?_ _ | refine Chg.drew ?_ | refine px3 ?_ (by assumption))))
 have owa3 : Own W (.sl .flt) [.slice pqa3 (List.length a3) cqa3] a3 bs1 := owna3.chg ch1 (fun b hb => by have := lo1 b hb;simp at this;omega);refine ⟨[.int .i64 a1,.int .i64 a2,.slice pqa3 (List.length a3) cqa3],([] ++ ([] ++ (bs1 ++ ([])))),rfl,(⟨[.int .i64 a1],[.int .i64 a2,.slice pqa3 (List.length a3) cqa3],[],([] ++ (bs1 ++ ([]))),rfl,⟨rfl,rfl⟩,⟨[.int .i64 a2],[.slice pqa3 (List.length a3) cqa3],[],(bs1 ++ ([])),rfl,⟨rfl,rfl⟩,⟨[.slice pqa3 (List.length a3) cqa3],[],bs1,([]),rfl,owa3,⟨rfl,rfl⟩,rfl⟩,rfl⟩,rfl⟩ : Own W jaa [.int .i64 a1,.int .i64 a2,.slice pqa3 (List.length a3) cqa3] (a1,a2,a3,au) _),?_,?_,eW⟩
 · simp only [List.nil_append,List.append_nil]
   exact nd1
 · intro b hb
   simp only [List.nil_append,List.append_nil,List.mem_append] at hb;have := lo1 b hb;simp at this;omega
theorem markTensor_ok : MarkOk 17 jaa := by
 intro cs d bs k w hu hnd hk0 hk;obtain ⟨a1,a2,a3,au⟩ := d;obtain ⟨_,_,_,_,rfl,⟨rfl,rfl⟩,⟨_,_,_,_,rfl,⟨rfl,rfl⟩,⟨_,_,ba3,_,rfl,owa3,⟨rfl,rfl⟩,rfl⟩,rfl⟩,rfl⟩ := hu;obtain ⟨pa3,ca3,rfl,hla3⟩ := jbb owa3.rep;simp only [List.nil_append,List.append_nil] at hnd;simp only [ofCs,Sh.agg,List.cons_append,List.nil_append,if_true];have htot : tot jaa (a1,a2,a3,au) = tot (.sl .flt) a3 := by simp only [tot];omega
 rw [htot] at hk;clear htot;have B1 := mkV_bd (.sl .flt) (by decide) a3 k;have nd1 := hnd;have lt1 := owa3.lt;go_enter Tryz.func17,Tryz.ntmps17;go_wp2_with fail;refine (jde [.slice pa3 (List.length a3) ca3] a3 ba3 k _ (Own.ext (w := w) owa3 ?_) nd1 (by omega) (by omega)).mono ?_
 · (repeat (first | (with_reducible first | exact Ext.refl _ | assumption) | ((with_reducible refine Ext.setCell ?_ ?_ _);rotate_left;focus (first | (simp;done) | (simp;omega))) | (with_reducible first | refine px1 ?_ _ | refine px2 ?_ | refine Ext.trans ?_ (by assumption))))
 rintro e w1 ⟨rfl,owa3_1,ch1⟩
 have x1_0 := ch1.cellOf (b := w.heap.size) (by first | (simp;done) | (simp;omega)) (fun h => by have := lt1 _ h;omega);have y1 := ch1.size;have E0 := (fun W0 (_ : Chg (fun b => b ∈ ba3) W0 w1) (h : Ext w W0) => h) _ ch1 (by (repeat (first | (with_reducible first | exact Ext.refl _ | assumption) | ((with_reducible refine Ext.setCell ?_ ?_ _);rotate_left;focus (first | (simp;done) | (simp;omega))) | (with_reducible first | refine px1 ?_ _ | refine px2 ?_ | refine Ext.trans ?_ (by assumption)))));go_wp2;go_ret;exact ⟨rfl,⟨[.int .i64 a1],[.int .i64 a2,.slice pa3 (List.length a3) ca3],[],([] ++ (ba3 ++ ([]))),rfl,⟨rfl,rfl⟩,⟨[.int .i64 a2],[.slice pa3 (List.length a3) ca3],[],(ba3 ++ ([])),rfl,⟨rfl,rfl⟩,⟨[.slice pa3 (List.length a3) ca3],[],ba3,[],rfl,owa3_1,⟨rfl,rfl⟩,rfl⟩,rfl⟩,rfl⟩,(Chg.of_ext E0).trans (ch1.mono fun b hb => by simp [hb])⟩
def RetB (w : World) (b : Bool) (e : Ending) (w' : World) : Prop := e = .returned (.bool b) ∧ Ext w w'
def tenB (r c : Int) (n : Nat) : Bool := inB r 1 16 && inB c 1 16 && decide ((n : Int) = r * c)
theorem l02Shape_any (a b : Int) (w : World) : Calls Tryz.prog 74 #[.int .i64 a,.int .i64 b] w fun e w' => e = .returned (.bool (inB a 1 16 && inB b 1 16)) ∧ w = w' := by
 cases h1 : inB a 1 16 <;> cases h2 : inB b 1 16
 all_goals
  have H1 := hid h1;have H2 := hid h2;clear h1 h2;go_enter Tryz.func74,Tryz.ntmps74;go_wp2_with (refine (jci _ _ _ _).mono ?_;rintro e w1 ⟨rfl,rfl⟩;first | rw [H1.out] | rw [H2.out]);go_ret;exact ⟨rfl,rfl⟩
theorem ja7 (x : Int) (h0 : -9223372036854775808 ≤ x) (h1 : x ≤ 9223372036854775807) : IntKind.i64.wrap x = x := IntWalk.i64_in _ (by omega)
theorem calls_same {P : Program} {f : Nat} {xs : Array Value} {w : World} {v : Value} (h : Calls P f xs w fun e w' => e = .returned v ∧ w = w') : Calls P f xs w fun e w3 => ∃ u,e = .returned u ∧ Ext w w3 ∧ u = v :=
 h.mono fun e w3 h => ⟨v,h.1,h.2 ▸ Ext.refl _,rfl⟩
theorem ja5 {P : Program} {f : Nat} {xs : Array Value} {w : World} {b : Bool} (h : Calls P f xs w (RetB w b)) : Calls P f xs w fun e w3 => ∃ u,e = .returned u ∧ Ext w w3 ∧ u = .bool b :=
 h.mono fun e w3 h => ⟨_,h.1,h.2,rfl⟩
theorem l02Is_any {sp : Option Nat} (bl o : Nat) (r c : Int) (p : Option Addr) (n cp : Nat) (w : World) (c0 : w.cell? ⟨bl,o,sp⟩ = some (.int .i64 r)) (c1 : w.cell? ⟨bl,o + 1,none⟩ = some (.int .i64 c)) (c2 : w.cell? ⟨bl,o + 2,none⟩ = some (.slice p n cp)) (hn : n ≤ maxLen) :
 Calls Tryz.prog 49 #[.pointer (some ⟨bl,o,sp⟩)] w (RetB w (tenB r c n)) := by
 unfold maxLen at hn;have d0 := (Ext.drew w).cell c0;have d1 := (Ext.drew w).cell c1;have d2 := (Ext.drew w).cell c2;clear c0 c1 c2
 cases h1 : (inB r 1 16 && inB c 1 16)
 · have hb : tenB r c n = false := by simp [tenB,h1]
   have H1 := hid h1;rw [hb];clear h1 hb;go_enter Tryz.func49,Tryz.ntmps49;go_wp2;refine jaf (F := fun _ _ u => u = .bool false) (by kernel_rfl) (by kernel_rfl) (by kernel_rfl) ?_;intro wf hwf
   repeat (first
    | ((first | (refine jat rfl ?_) | (refine x_mv rfl rfl rfl ?_) | (refine x_as rfl rfl rfl ?_) | ((with_reducible show gx4);refine jam (f := 74) (args := #[.int .i64 r,.int .i64 c]) rfl rfl Tryz.func74 rfl (by kernel_rfl) ?_ ?_ ?_;(focus (simp [Act.eval];done));(focus (intro w1 hw1;exact (by have h := l02Shape_any r c w1;rw [H1.out] at h;exact calls_same h)));rintro u w3 e3 e4 rfl));simp only [Act.put,jab,pu1,pu2,pu3,pu4,pu5])
    | (refine ja3 rfl fun K hK w1 hw1 => ?_;have k0 := hw1.cell (d0);have k1 := hw1.cell (d1);have k2 := hw1.cell (d2);go_simp;refine hK _ ?_;clear hK K k0 k1 k2 hw1 w1))
   refine ja4 ?_;go_wp2;go_ret;exact ⟨rfl,(Ext.drew w).trans hwf⟩
 · have h2 := h1
   rw [Bool.and_eq_true,jbc,jbc] at h2;have H1 := hid h1;have hb : tenB r c n = decide ((n : Int) = r * c) := by simp [tenB,h1]
   rw [hb];have hm : r * c ≤ 256 := by have := Int.mul_le_mul h2.1.2 h2.2.2 (by omega) (by decide);omega
   have hm0 : 0 ≤ r * c := Int.mul_nonneg (by omega) (by omega);clear h1 hb;go_enter Tryz.func49,Tryz.ntmps49;go_wp2;refine jaf (F := fun _ _ u => u = .bool true) (by kernel_rfl) (by kernel_rfl) (by kernel_rfl) ?_;intro wf hwf
   repeat (first
    | ((first | (refine jat rfl ?_) | (refine x_mv rfl rfl rfl ?_) | (refine x_as rfl rfl rfl ?_) | ((with_reducible show gx4);refine jam (f := 74) (args := #[.int .i64 r,.int .i64 c]) rfl rfl Tryz.func74 rfl (by kernel_rfl) ?_ ?_ ?_;(focus (simp [Act.eval];done));(focus (intro w1 hw1;exact (by have h := l02Shape_any r c w1;rw [H1.out] at h;exact calls_same h)));rintro u w3 e3 e4 rfl));simp only [Act.put,jab,pu1,pu2,pu3,pu4,pu5])
    | (refine ja3 rfl fun K hK w1 hw1 => ?_;have k0 := hw1.cell (d0);have k1 := hw1.cell (d1);have k2 := hw1.cell (d2);go_simp;refine hK _ ?_;clear hK K k0 k1 k2 hw1 w1))
   refine ja4 ?_;go_wp2;go_ret;exact ⟨jc6 (a := ((n : Int) == IntKind.i64.wrap (r * c))) (by rw [ja7 _ (by omega) (by omega)];rfl),(Ext.drew w).trans hwf⟩
theorem jdh (r c : Int) (p : Option Addr) (n cp : Nat) (w : World) (hn : n ≤ maxLen) :
 Calls Tryz.prog 57 #[.agg #[.int .i64 r,.int .i64 c,.slice p n cp]] w (RetB w (tenB r c n)) := by
 unfold maxLen at hn
 cases h1 : inB r 1 16
 · have hb : tenB r c n = false := by simp [tenB,h1]
   have H1 := hid h1;rw [hb];clear h1 hb;go_enter Tryz.func57,Tryz.ntmps57;go_wp2_with fail;refine (jcz _ _).mono ?_;rintro e w1 ⟨rfl,rfl⟩
   rw [H1.out];go_wp2;go_ret;exact ⟨rfl,Ext.alloc _ _⟩
 · cases h2 : inB c 1 16
   · have hb : tenB r c n = false := by simp [tenB,h2]
     have H1 := hid h1;have H2 := hid h2;rw [hb];clear h1 h2 hb;go_enter Tryz.func57,Tryz.ntmps57;go_wp2_with fail;refine (jcz _ _).mono ?_;rintro e w1 ⟨rfl,rfl⟩
     rw [H1.out];go_wp2_with fail;refine (jcz _ _).mono ?_;rintro e w1 ⟨rfl,rfl⟩
     rw [H2.out];go_wp2;go_ret;exact ⟨rfl,Ext.alloc _ _⟩
   · have hb : tenB r c n = decide ((n : Int) = r * c) := by simp [tenB,h1,h2]
     have H1 := hid h1;have H2 := hid h2;rw [jbc] at h1 h2;have hm : r * c ≤ 256 := by have := Int.mul_le_mul h1.2 h2.2 (by omega) (by decide);omega
     have hm0 : 0 ≤ r * c := Int.mul_nonneg (by omega) (by omega);rw [hb];clear hb;go_enter Tryz.func57,Tryz.ntmps57;go_wp2_with fail;refine (jcz _ _).mono ?_;rintro e w1 ⟨rfl,rfl⟩
     rw [H1.out];go_wp2_with fail;refine (jcz _ _).mono ?_;rintro e w1 ⟨rfl,rfl⟩
     rw [H2.out];go_wp2;go_ret;exact ⟨jc6 (a := ((n : Int) == r * c)) rfl,Ext.alloc _ _⟩
section
variable {P : Program} {w : World} {ops : Array Oper} {rest : List Oper} {o o1 o2 : Oper} {a : Act} {Q : Exit → Act → World → Prop}
theorem wl_box {t : TypeId} {s : Sh} {x : Operand} (hg : o.guard = none) (ho : o.op = .box t x) {cs : List Value} (hx : a.eval x = ofCs s cs) (hl : cs.length = s.sz) (h1 : ∀ u ∈ cs,u.oneCell' = true)
 (h : ∀ b w',Ext w w' → w.heap.size ≤ b → Cs w' (some ⟨b,0,none⟩) cs → wpList P ops Q rest (a.put o.dst (.pointer (some ⟨b,0,none⟩))) w') : wpList P ops Q (o :: rest) a w := by
 refine jcp hg (v := .pointer (some ⟨w.heap.size,0,none⟩)) (w' := w.alloc (.cells cs.toArray t)) ?_ (h _ _ (Ext.alloc _ _) (Nat.le_refl _) ⟨fun i u hu => ?_,fun _ => rfl⟩)
 · simp [execOp,ho,hx,Instr.box,newVar,newRow,ofCs_cells hl h1]
 · rw [jbo]
   have hnew : (w.alloc (.cells cs.toArray t)).heap[w.heap.size]? = some (.cells cs.toArray t) := heap_alloc_new w _;unfold World.cell?;rw [hnew]
   simpa using hu
theorem run_stA {t : TypeId} {s : Sh} [T : ElTy P t s] {g : Nat} {Z : Array Value} {e : TypeId} {cs : List Value} (hg : w.heap[g]? = some (.cells Z e (0,0))) (hZ : Z.size = s.sz) (hl : cs.length = s.sz) (h1 : ∀ u ∈ cs,u.oneCell' = true) (hs : 0 < s.sz) :
 ∃ w',(Instr.storeAt t (.pointer (some ⟨g,0,none⟩)) (ofCs s cs)).run P w = .ok () w' ∧ Cs w' (some ⟨g,0,none⟩) cs ∧ Chg (fun b => b = g) w w' := by
 have how : jbg w (some ⟨g,0,none⟩) 1 1 ([Z.toList]).flatten := .inr ⟨g,Z,e,rfl,hg,by simp only [List.flatten_cons,List.flatten_nil,List.append_nil];exact List.take_length⟩;obtain ⟨w',h2,h3,h4⟩ := run_storeE (P := P) (t := t) (s := s) (j := 0) how (by simp [hZ]) (by simp) hl hs h1;refine ⟨w',?_,?_,h4.mono (by intro k hk;simpa [jak] using hk)⟩
 · rw [Nat.zero_mul,jbo] at h2;exact h2
 · have := h3.cs;simpa using this
theorem wl_stA {t : TypeId} {s : Sh} [T : ElTy P t s] {x y : Operand} (hgd : o.guard = none) (ho : o.op = .store t x y) {g : Nat} {Z : Array Value} {e : TypeId} {cs : List Value} (hx : a.eval x = .pointer (some ⟨g,0,none⟩)) (hy : a.eval y = ofCs s cs)
 (hg : w.heap[g]? = some (.cells Z e (0,0))) (hZ : Z.size = s.sz) (hl : cs.length = s.sz) (h1 : ∀ u ∈ cs,u.oneCell' = true) (hs : 0 < s.sz)
 (h : ∀ w',Cs w' (some ⟨g,0,none⟩) cs → Chg (fun b => b = g) w w' → wpList P ops Q rest (a.put o.dst undef) w') : wpList P ops Q (o :: rest) a w := by
 obtain ⟨w',h2,h3,h4⟩ := run_stA (P := P) (t := t) hg hZ hl h1 hs;exact ja9 hgd (by simp [execOp,ho,hx,hy,h2]) (h w' h3 h4)
end
section
variable {P : Program} {w wf : World} {ops : Array Oper} {rest : List Oper} {o o1 o2 : Oper} {a : Act} {Q : Act → Prop} {F : Option Tmp → World → World → Value → Prop}
theorem jdc {t : TypeId} {s : Sh} [ElTy P t s] {x : Operand} (hw : Region.wanted o (yielded ops a.tmps) = true) (ho : o.op = .load t x) {q : Addr} {cs : List Value} (hx : a.eval x = .pointer (some q)) (hc : Cs w (some q) cs) (hl : cs.length = s.sz)
 (h : wpX P ops F w wf Q rest (a.put o.dst (ofCs s cs))) : wpX P ops F w wf Q (o :: rest) a :=
 x_pure hw (fun w1 h1 => by simp [execOp,ho,hx,run_loadE (P := P) (t := t) (s := s) (hc.ext h1) hl]) h
end
def wCnt (k i o : Int) : Int := if k = 0 then i * o else if k = 2 then i else if k = 5 then i else 0
def bCnt (k i o : Int) : Int := if k = 0 then o else if k = 2 then 0 else if k = 5 then i else 0
def layB (k i o : Int) (nw nb : Nat) : Bool := inB k 0 5 && (inB i 1 8 && (inB o 1 8 && ((decide (k = 0) || decide (i = o)) && (decide ((nw : Int) = wCnt k i o) && decide ((nb : Int) = bCnt k i o)))))
theorem beq_t {a b : Int} (h : a = b) : (a == b) = true := beq_iff_eq.2 h
theorem beq_f {a b : Int} (h : ¬ a = b) : (a == b) = false := beq_eq_false_iff_ne.2 h
theorem bne_t {a b : Int} (h : ¬ a = b) : (a != b) = true := by simp [h]
theorem bne_f {a b : Int} (h : a = b) : (a != b) = false := by simp [h]
theorem mul_bd {i o : Int} (hi : 1 ≤ i ∧ i ≤ 8) (ho : 1 ≤ o ∧ o ≤ 8) : 0 ≤ i * o ∧ i * o ≤ 64 :=
 ⟨Int.mul_nonneg (by omega) (by omega),by have := Int.mul_le_mul hi.2 ho.2 (by omega) (by decide);omega⟩
theorem jce (n : Int) (w : World) : Calls Tryz.prog 103 #[.int .i64 n] w fun e w' => e = .returned (.bool (inB n 1 8)) ∧ w = w' := by
 go_enter Tryz.func103,Tryz.ntmps103;go_wp2_with (refine (jbf _ _ _ _).mono ?_;rintro e w' ⟨rfl,rfl⟩);go_ret;exact ⟨rfl,rfl⟩
theorem ValidLayer_any (k i o : Int) (pw pb : Option Addr) (nw cw nb cb : Nat) (w : World) (h1 : nw ≤ maxLen) (h2 : nb ≤ maxLen) :
 Calls Tryz.prog 82 #[.agg #[.int .i64 k,.int .i64 i,.int .i64 o,.slice pw nw cw,.slice pb nb cb]] w (RetB w (layB k i o nw nb)) := by
 unfold maxLen at h1 h2;generalize hB : layB k i o nw nb = B;have HB := hid hB;clear hB;unfold layB at HB
 cases k1 : inB k 0 5
 · have K1 := hid k1
   have : B = false := by rw [← HB.out,k1];rfl
   subst this;clear k1;go_enter Tryz.func82,Tryz.ntmps82;go_wp2_with (go_at_call 65;refine (jbf _ _ _ _).mono ?_;rintro e w1 ⟨rfl,rfl⟩;rw [K1.out]);go_ret;exact ⟨rfl,Ext.alloc _ _⟩
 cases k2 : inB i 1 8
 · have K1 := hid k1
   have K2 := hid k2;have : B = false := by rw [← HB.out,k1,k2];rfl
   subst this;clear k1 k2;go_enter Tryz.func82,Tryz.ntmps82;go_wp2_with (first | (go_at_call 65;refine (jbf _ _ _ _).mono ?_;rintro e w1 ⟨rfl,rfl⟩;rw [K1.out]) | (go_at_call 103;refine (jce _ _).mono ?_;rintro e w1 ⟨rfl,rfl⟩;rw [K2.out]));go_ret;exact ⟨rfl,Ext.alloc _ _⟩
 cases k3 : inB o 1 8
 · have K1 := hid k1
   have K2 := hid k2;have K3 := hid k3;have : B = false := by rw [← HB.out,k1,k2,k3];rfl
   subst this;clear k1 k2 k3;go_enter Tryz.func82,Tryz.ntmps82;go_wp2_with (first | (go_at_call 65;refine (jbf _ _ _ _).mono ?_;rintro e w1 ⟨rfl,rfl⟩;rw [K1.out]) | (go_at_call 103;refine (jce _ _).mono ?_;rintro e w1 ⟨rfl,rfl⟩;first | rw [K2.out] | rw [K3.out]));go_ret;exact ⟨rfl,Ext.alloc _ _⟩
 have K1 := hid k1;have K2 := hid k2;have K3 := hid k3;rw [jbc] at k1 k2 k3;obtain ⟨m0,m1⟩ := mul_bd k2 k3;have hB2 : B = ((decide (k = 0) || decide (i = o)) && (decide ((nw : Int) = wCnt k i o) && decide ((nb : Int) = bCnt k i o))) := by rw [← HB.out,K1.out,K2.out,K3.out];rfl
 clear HB
 by_cases hk0 : k = 0
 · subst hk0
   have hw : wCnt 0 i o = i * o := rfl;have hb : bCnt 0 i o = o := rfl;rw [hw,hb] at hB2
   have hwr : wrap64 (o * i) = o * i := by
    have m2 : o * i = i * o := Int.mul_comm o i;unfold wrap64;rw [m2];omega
   by_cases e1 : (nw : Int) = i * o
   · by_cases e2 : (nb : Int) = o
     all_goals
      have E1 := beq_t (e1.trans (Int.mul_comm i o))
      first | have E2 := beq_t e2 | have E2 := beq_f e2
      simp only [e1,e2,decide_true,decide_false,Bool.true_or,Bool.or_true,Bool.true_and,Bool.and_true,Bool.and_false] at hB2;subst hB2;clear e1 e2 hw hb;go_enter Tryz.func82,Tryz.ntmps82;go_wp2_with (first | (go_at_call 65;refine (jbf _ _ _ _).mono ?_;rintro e w1 ⟨rfl,rfl⟩;rw [K1.out]) | (go_at_call 103;refine (jce _ _).mono ?_;rintro e w1 ⟨rfl,rfl⟩;first | rw [K2.out] | rw [K3.out]));refine jaf (F := fun _ _ _ => True) (by kernel_rfl) (by kernel_rfl) (by kernel_rfl) ?_;intro wf hwf
      repeat (first
       | ((first | (refine jat rfl ?_) | (refine x_mv rfl rfl rfl ?_) | (refine x_as rfl rfl rfl ?_));simp only [Act.put,jab,pu1,pu2,pu3,pu4,pu5])
       | (refine ja3 rfl fun K hK w1 hw1 => ?_;have k0 := hw1.cellOf (b := w.heap.size) (by simp);go_simp;refine hK _ ?_;clear hK K k0 hw1 w1))
      refine ja4 ?_;have z := hwf.cellOf (b := w.heap.size) (by simp);go_wp2;go_ret;exact ⟨rfl,((Ext.alloc _ _).trans (Ext.drew _)).trans hwf⟩
   · have E1 := beq_f (fun h => e1 (h.trans (Int.mul_comm o i)))
     simp only [e1,decide_true,decide_false,Bool.true_or,Bool.or_true,Bool.true_and,Bool.false_and,Bool.and_false] at hB2;subst hB2;clear e1 hw hb;go_enter Tryz.func82,Tryz.ntmps82;go_wp2_with (first | (go_at_call 65;refine (jbf _ _ _ _).mono ?_;rintro e w1 ⟨rfl,rfl⟩;rw [K1.out]) | (go_at_call 103;refine (jce _ _).mono ?_;rintro e w1 ⟨rfl,rfl⟩;first | rw [K2.out] | rw [K3.out]));refine jaf (F := fun _ _ _ => True) (by kernel_rfl) (by kernel_rfl) (by kernel_rfl) ?_;intro wf hwf
     repeat (first
      | ((first | (refine jat rfl ?_) | (refine x_mv rfl rfl rfl ?_) | (refine x_as rfl rfl rfl ?_));simp only [Act.put,jab,pu1,pu2,pu3,pu4,pu5])
      | (refine ja3 rfl fun K hK w1 hw1 => ?_;have k0 := hw1.cellOf (b := w.heap.size) (by simp);go_simp;refine hK _ ?_;clear hK K k0 hw1 w1))
     refine ja4 ?_;have z := hwf.cellOf (b := w.heap.size) (by simp);go_wp2;go_ret;exact ⟨rfl,((Ext.alloc _ _).trans (Ext.drew _)).trans hwf⟩
 by_cases hio : ¬ i = o
 · have F0 := bne_t hk0
   have F1 := bne_t hio;have : B = false := by rw [hB2];simp [hk0,hio]
   subst this;clear hk0 hio hB2;go_enter Tryz.func82,Tryz.ntmps82;go_wp2_with (first | (go_at_call 65;refine (jbf _ _ _ _).mono ?_;rintro e w1 ⟨rfl,rfl⟩;rw [K1.out]) | (go_at_call 103;refine (jce _ _).mono ?_;rintro e w1 ⟨rfl,rfl⟩;first | rw [K2.out] | rw [K3.out]));go_ret;exact ⟨rfl,Ext.alloc _ _⟩
 have hio := Classical.not_not.1 hio;subst hio
 by_cases hk2 : k = 2
 · subst hk2
   have hw : wCnt 2 i i = i := rfl;have hb : bCnt 2 i i = 0 := rfl;rw [hw,hb] at hB2
   by_cases e1 : (nw : Int) = i
   · by_cases e2 : (nb : Int) = 0
     all_goals
      have E1 := beq_t e1
      first | have E2 := beq_t e2 | have E2 := beq_f e2
      simp only [e1,e2,decide_true,decide_false,Bool.true_or,Bool.or_true,Bool.true_and,Bool.and_true,Bool.and_false] at hB2;subst hB2;clear e1 e2 hw hb;go_enter Tryz.func82,Tryz.ntmps82;go_wp2_with (first | (go_at_call 65;refine (jbf _ _ _ _).mono ?_;rintro e w1 ⟨rfl,rfl⟩;rw [K1.out]) | (go_at_call 103;refine (jce _ _).mono ?_;rintro e w1 ⟨rfl,rfl⟩;first | rw [K2.out] | rw [K3.out]));go_ret;exact ⟨rfl,Ext.alloc _ _⟩
   · have E1 := beq_f e1
     simp only [e1,decide_true,decide_false,Bool.true_or,Bool.or_true,Bool.true_and,Bool.false_and,Bool.and_false] at hB2;subst hB2;clear e1 hw hb;go_enter Tryz.func82,Tryz.ntmps82;go_wp2_with (first | (go_at_call 65;refine (jbf _ _ _ _).mono ?_;rintro e w1 ⟨rfl,rfl⟩;rw [K1.out]) | (go_at_call 103;refine (jce _ _).mono ?_;rintro e w1 ⟨rfl,rfl⟩;first | rw [K2.out] | rw [K3.out]));go_ret;exact ⟨rfl,Ext.alloc _ _⟩
 by_cases hk5 : k = 5
 · subst hk5
   have hw : wCnt 5 i i = i := rfl;have hb : bCnt 5 i i = i := rfl;rw [hw,hb] at hB2
   by_cases e1 : (nw : Int) = i
   · by_cases e2 : (nb : Int) = i
     all_goals
      have E1 := beq_t e1
      first | have E2 := beq_t e2 | have E2 := beq_f e2
      simp only [e1,e2,decide_true,decide_false,Bool.true_or,Bool.or_true,Bool.true_and,Bool.and_true,Bool.and_false] at hB2;subst hB2;clear e1 e2 hw hb;go_enter Tryz.func82,Tryz.ntmps82;go_wp2_with (first | (go_at_call 65;refine (jbf _ _ _ _).mono ?_;rintro e w1 ⟨rfl,rfl⟩;rw [K1.out]) | (go_at_call 103;refine (jce _ _).mono ?_;rintro e w1 ⟨rfl,rfl⟩;first | rw [K2.out] | rw [K3.out]));refine jaf (F := fun _ _ _ => True) (by kernel_rfl) (by kernel_rfl) (by kernel_rfl) ?_;intro wf hwf
      repeat (first
       | ((first | (refine jat rfl ?_) | (refine x_mv rfl rfl rfl ?_) | (refine x_as rfl rfl rfl ?_));simp only [Act.put,jab,pu1,pu2,pu3,pu4,pu5])
       | (refine ja3 rfl fun K hK w1 hw1 => ?_;have k0 := hw1.cellOf (b := w.heap.size) (by simp);go_simp;refine hK _ ?_;clear hK K k0 hw1 w1))
      refine ja4 ?_;have z := hwf.cellOf (b := w.heap.size) (by simp);go_wp2;go_ret;exact ⟨rfl,((Ext.alloc _ _).trans (Ext.drew _)).trans hwf⟩
   · have E1 := beq_f e1
     simp only [e1,decide_true,decide_false,Bool.true_or,Bool.or_true,Bool.true_and,Bool.false_and,Bool.and_false] at hB2;subst hB2;clear e1 hw hb;go_enter Tryz.func82,Tryz.ntmps82;go_wp2_with (first | (go_at_call 65;refine (jbf _ _ _ _).mono ?_;rintro e w1 ⟨rfl,rfl⟩;rw [K1.out]) | (go_at_call 103;refine (jce _ _).mono ?_;rintro e w1 ⟨rfl,rfl⟩;first | rw [K2.out] | rw [K3.out]));refine jaf (F := fun _ _ _ => True) (by kernel_rfl) (by kernel_rfl) (by kernel_rfl) ?_;intro wf hwf
     repeat (first
      | ((first | (refine jat rfl ?_) | (refine x_mv rfl rfl rfl ?_) | (refine x_as rfl rfl rfl ?_));simp only [Act.put,jab,pu1,pu2,pu3,pu4,pu5])
      | (refine ja3 rfl fun K hK w1 hw1 => ?_;have k0 := hw1.cellOf (b := w.heap.size) (by simp);go_simp;refine hK _ ?_;clear hK K k0 hw1 w1))
     refine ja4 ?_;have z := hwf.cellOf (b := w.heap.size) (by simp);go_wp2;go_ret;exact ⟨rfl,((Ext.alloc _ _).trans (Ext.drew _)).trans hwf⟩
 have F0 := bne_t hk0;have F0' := beq_f hk0;have F2 := beq_f hk2;have F5 := beq_f hk5;have hw : wCnt k i i = 0 := by unfold wCnt;rw [if_neg hk0,if_neg hk2,if_neg hk5]
 have hb : bCnt k i i = 0 := by unfold bCnt;rw [if_neg hk0,if_neg hk2,if_neg hk5]
 rw [hw,hb] at hB2;clear hk0 hk2 hk5 hw hb
 by_cases e1 : (nw : Int) = 0
 · by_cases e2 : (nb : Int) = 0
   all_goals
    have E1 := beq_t e1
    first | have E2 := beq_t e2 | have E2 := beq_f e2
    simp only [e1,e2,decide_true,decide_false,Bool.true_or,Bool.or_true,Bool.true_and,Bool.and_true,Bool.and_false] at hB2;subst hB2;clear e1 e2;go_enter Tryz.func82,Tryz.ntmps82;go_wp2_with (first | (go_at_call 65;refine (jbf _ _ _ _).mono ?_;rintro e w1 ⟨rfl,rfl⟩;rw [K1.out]) | (go_at_call 103;refine (jce _ _).mono ?_;rintro e w1 ⟨rfl,rfl⟩;first | rw [K2.out] | rw [K3.out]));go_ret;exact ⟨rfl,Ext.alloc _ _⟩
 · have E1 := beq_f e1
   simp only [e1,decide_true,decide_false,Bool.true_or,Bool.or_true,Bool.true_and,Bool.false_and,Bool.and_false] at hB2;subst hB2;clear e1;go_enter Tryz.func82,Tryz.ntmps82;go_wp2_with (first | (go_at_call 65;refine (jbf _ _ _ _).mono ?_;rintro e w1 ⟨rfl,rfl⟩;rw [K1.out]) | (go_at_call 103;refine (jce _ _).mono ?_;rintro e w1 ⟨rfl,rfl⟩;first | rw [K2.out] | rw [K3.out]));go_ret;exact ⟨rfl,Ext.alloc _ _⟩
theorem l03Counts_any {sp : Option Nat} (bl o' : Nat) (k i o : Int) (w : World) (f0 : w.cell? ⟨bl,o',sp⟩ = some (.int .i64 k)) (f1 : w.cell? ⟨bl,o' + 1,none⟩ = some (.int .i64 i)) (f2 : w.cell? ⟨bl,o' + 2,none⟩ = some (.int .i64 o)) (k2 : 1 ≤ i ∧ i ≤ 8) (k3 : 1 ≤ o ∧ o ≤ 8) :
 Calls Tryz.prog 128 #[.pointer (some ⟨bl,o',sp⟩)] w fun e w' => e = .returned (.tuple #[.int .i64 (wCnt k i o),.int .i64 (bCnt k i o)]) ∧ Ext w w' := by
 obtain ⟨m0,m1⟩ := mul_bd k2 k3
 by_cases hk0 : k = 0
 · subst hk0
   have hw : wCnt 0 i o = i * o := rfl;have hb : bCnt 0 i o = o := rfl;rw [hw,hb];have hwr : IntKind.i64.wrap (i * o) = i * o := ja7 _ (by omega) (by omega);have d1 := (Ext.drew w).cell f1;have d2 := (Ext.drew w).cell f2;clear hw hb;go_enter Tryz.func128,Tryz.ntmps128;go_wp2;refine jaf (F := fun _ _ _ => True) (by kernel_rfl) (by kernel_rfl) (by kernel_rfl) ?_;intro wf hwf
   repeat (first
    | ((first | (refine jat rfl ?_) | (refine x_mv rfl rfl rfl ?_) | (refine x_as rfl rfl rfl ?_));simp only [Act.put,jab,pu1,pu2,pu3,pu4,pu5])
    | (refine ja3 rfl fun K hK w1 hw1 => ?_;have k0 := hw1.cell (d1);have k1 := hw1.cell (d2);go_simp;refine hK _ ?_;clear hK K k0 k1 hw1 w1))
   refine ja4 ?_;go_wp2;go_ret2;exact ⟨rfl,(Ext.drew _).trans hwf⟩
 by_cases hk2 : k = 2
 · subst hk2
   have hw : wCnt 2 i o = i := rfl;have hb : bCnt 2 i o = 0 := rfl;rw [hw,hb];go_enter Tryz.func128,Tryz.ntmps128;go_wp2;go_ret2;exact ⟨rfl,Ext.refl _⟩
 by_cases hk5 : k = 5
 · subst hk5
   have hw : wCnt 5 i o = i := rfl;have hb : bCnt 5 i o = i := rfl;rw [hw,hb];have d1 := (Ext.drew w).cell f1;clear hw hb;go_enter Tryz.func128,Tryz.ntmps128;go_wp2;refine jaf (F := fun _ _ _ => True) (by kernel_rfl) (by kernel_rfl) (by kernel_rfl) ?_;intro wf hwf
   repeat (first
    | ((first | (refine jat rfl ?_) | (refine x_mv rfl rfl rfl ?_) | (refine x_as rfl rfl rfl ?_));simp only [Act.put,jab,pu1,pu2,pu3,pu4,pu5])
    | (refine ja3 rfl fun K hK w1 hw1 => ?_;have k0 := hw1.cell (d1);go_simp;refine hK _ ?_;clear hK K k0 hw1 w1))
   refine ja4 ?_;go_wp2;go_ret2;exact ⟨rfl,(Ext.drew _).trans hwf⟩
 have F0 := beq_f hk0;have F2 := beq_f hk2;have F5 := beq_f hk5;have hw : wCnt k i o = 0 := by unfold wCnt;rw [if_neg hk0,if_neg hk2,if_neg hk5]
 have hb : bCnt k i o = 0 := by unfold bCnt;rw [if_neg hk0,if_neg hk2,if_neg hk5]
 rw [hw,hb];clear hk0 hk2 hk5 hw hb;go_enter Tryz.func128,Tryz.ntmps128;go_wp2;go_ret2;exact ⟨rfl,Ext.refl _⟩
theorem l03Layer_any {sp : Option Nat} (bl o' : Nat) (k i o : Int) (pw pb : Option Addr) (nw cw nb cb : Nat) (w : World)
 (f0 : w.cell? ⟨bl,o',sp⟩ = some (.int .i64 k)) (f1 : w.cell? ⟨bl,o' + 1,none⟩ = some (.int .i64 i)) (f2 : w.cell? ⟨bl,o' + 2,none⟩ = some (.int .i64 o))
 (f3 : w.cell? ⟨bl,o' + 3,none⟩ = some (.slice pw nw cw)) (f4 : w.cell? ⟨bl,o' + 4,none⟩ = some (.slice pb nb cb)) (h1 : nw ≤ maxLen) (h2 : nb ≤ maxLen) :
 Calls Tryz.prog 117 #[.pointer (some ⟨bl,o',sp⟩)] w (RetB w (layB k i o nw nb)) := by
 unfold maxLen at h1 h2;generalize hB : layB k i o nw nb = B;have HB := hid hB;clear hB;unfold layB at HB
 cases k1 : inB k 0 5
 · have K1 := hid k1
   have : B = false := by rw [← HB.out,k1];rfl
   subst this;clear k1;go_enter Tryz.func117,Tryz.ntmps117;go_wp2_with (go_at_call 75;refine (jci _ _ _ _).mono ?_;rintro e w1 ⟨rfl,rfl⟩;first | rw [K1.out]);go_ret;exact ⟨rfl,Ext.refl _⟩
 cases k2 : inB i 1 8
 · have K1 := hid k1
   have K2 := hid k2;have : B = false := by rw [← HB.out,k1,k2];rfl
   subst this;clear k1 k2;go_enter Tryz.func117,Tryz.ntmps117;go_wp2_with (go_at_call 75;refine (jci _ _ _ _).mono ?_;rintro e w1 ⟨rfl,rfl⟩;first | rw [K1.out] | rw [K2.out]);go_ret;exact ⟨rfl,Ext.refl _⟩
 cases k3 : inB o 1 8
 · have K1 := hid k1
   have K2 := hid k2;have K3 := hid k3;have : B = false := by rw [← HB.out,k1,k2,k3];rfl
   subst this;clear k1 k2 k3;go_enter Tryz.func117,Tryz.ntmps117;go_wp2_with (go_at_call 75;refine (jci _ _ _ _).mono ?_;rintro e w1 ⟨rfl,rfl⟩;first | rw [K1.out] | rw [K2.out] | rw [K3.out]);go_ret;exact ⟨rfl,Ext.refl _⟩
 have K1 := hid k1;have K2 := hid k2;have K3 := hid k3;rw [jbc] at k1 k2 k3;have hB2 : B = ((decide (k = 0) || decide (i = o)) && (decide ((nw : Int) = wCnt k i o) && decide ((nb : Int) = bCnt k i o))) := by rw [← HB.out,K1.out,K2.out,K3.out];rfl
 clear HB;have C := hid (fun w' (h : Ext w w') => l03Counts_any bl o' k i o w' (h.cell f0) (h.cell f1) (h.cell f2) k2 k3);generalize wCnt k i o = W at *;generalize bCnt k i o = V at *;have key : ∀ (q : Bool),q = (decide (k = 0) || decide (i = o)) → True := fun _ _ => trivial
 clear key
 by_cases hk0 : k = 0
 · subst hk0
   by_cases e1 : (nw : Int) = W
   · by_cases e2 : (nb : Int) = V
     all_goals
      have E1 := beq_t e1
      first | have E2 := beq_t e2 | have E2 := beq_f e2
      simp only [decide_true,e1,e2,decide_true,decide_false,Bool.true_or,Bool.or_true,Bool.true_and,Bool.and_true,Bool.and_false] at hB2;subst hB2;clear e1 e2;go_enter Tryz.func117,Tryz.ntmps117;go_wp2_with (go_at_call 75;refine (jci _ _ _ _).mono ?_;rintro e w1 ⟨rfl,rfl⟩;first | rw [K1.out] | rw [K2.out] | rw [K3.out]);refine (C.out _ (Ext.refl _)).mono ?_;rintro e w1 ⟨rfl,e1⟩
      have x := e1.trans (Ext.drew w1);have d0 := x.cell f0;have d1 := x.cell f1;have d2 := x.cell f2;have d3 := x.cell f3;have d4 := x.cell f4;go_wp2;refine jaf (F := fun _ _ _ => True) (by kernel_rfl) (by kernel_rfl) (by kernel_rfl) ?_;intro wf hwf
      repeat (first
       | ((first | (refine jat rfl ?_) | (refine x_mv rfl rfl rfl ?_) | (refine x_as rfl rfl rfl ?_));simp only [Act.put,jab,pu1,pu2,pu3,pu4,pu5])
       | (refine ja3 rfl fun K hK w1 hw1 => ?_;have k0 := hw1.cell (d0);have k1 := hw1.cell (d1);have k2 := hw1.cell (d2);have k3 := hw1.cell (d3);have k4 := hw1.cell (d4);go_simp;refine hK _ ?_;clear hK K k0 k1 k2 k3 k4 hw1 w1))
      refine ja4 ?_;go_wp2;go_ret;exact ⟨rfl,x.trans hwf⟩
   · have E1 := beq_f e1
     simp only [decide_true,e1,decide_true,decide_false,Bool.true_or,Bool.or_true,Bool.true_and,Bool.false_and,Bool.and_false] at hB2;subst hB2;clear e1;go_enter Tryz.func117,Tryz.ntmps117;go_wp2_with (go_at_call 75;refine (jci _ _ _ _).mono ?_;rintro e w1 ⟨rfl,rfl⟩;first | rw [K1.out] | rw [K2.out] | rw [K3.out]);refine (C.out _ (Ext.refl _)).mono ?_;rintro e w1 ⟨rfl,e1⟩
     have x := e1.trans (Ext.drew w1);have d0 := x.cell f0;have d1 := x.cell f1;have d2 := x.cell f2;have d3 := x.cell f3;have d4 := x.cell f4;go_wp2;refine jaf (F := fun _ _ _ => True) (by kernel_rfl) (by kernel_rfl) (by kernel_rfl) ?_;intro wf hwf
     repeat (first
      | ((first | (refine jat rfl ?_) | (refine x_mv rfl rfl rfl ?_) | (refine x_as rfl rfl rfl ?_));simp only [Act.put,jab,pu1,pu2,pu3,pu4,pu5])
      | (refine ja3 rfl fun K hK w1 hw1 => ?_;have k0 := hw1.cell (d0);have k1 := hw1.cell (d1);have k2 := hw1.cell (d2);have k3 := hw1.cell (d3);have k4 := hw1.cell (d4);go_simp;refine hK _ ?_;clear hK K k0 k1 k2 k3 k4 hw1 w1))
     refine ja4 ?_;go_wp2;go_ret;exact ⟨rfl,x.trans hwf⟩
 have F0 := beq_f hk0
 by_cases hio : ¬ i = o
 · have F1 := beq_f hio
   have : B = false := by rw [hB2];simp [hk0,hio]
   subst this;clear hk0 hio hB2;go_enter Tryz.func117,Tryz.ntmps117;go_wp2_with (go_at_call 75;refine (jci _ _ _ _).mono ?_;rintro e w1 ⟨rfl,rfl⟩;first | rw [K1.out] | rw [K2.out] | rw [K3.out]);refine (C.out _ (Ext.refl _)).mono ?_;rintro e w1 ⟨rfl,e1⟩
   have x := e1.trans (Ext.drew w1);have d0 := x.cell f0;have d1 := x.cell f1;have d2 := x.cell f2;have d3 := x.cell f3;have d4 := x.cell f4;go_wp2;refine jaf (F := fun _ _ _ => True) (by kernel_rfl) (by kernel_rfl) (by kernel_rfl) ?_;intro wf hwf
   repeat (first
    | ((first | (refine jat rfl ?_) | (refine x_mv rfl rfl rfl ?_) | (refine x_as rfl rfl rfl ?_));simp only [Act.put,jab,pu1,pu2,pu3,pu4,pu5])
    | (refine ja3 rfl fun K hK w1 hw1 => ?_;have k0 := hw1.cell (d0);have k1 := hw1.cell (d1);have k2 := hw1.cell (d2);have k3 := hw1.cell (d3);have k4 := hw1.cell (d4);go_simp;refine hK _ ?_;clear hK K k0 k1 k2 k3 k4 hw1 w1))
   refine ja4 ?_;go_wp2;go_ret;exact ⟨rfl,x.trans hwf⟩
 have hio := Classical.not_not.1 hio;have F1 := beq_t hio
 by_cases e1 : (nw : Int) = W
 · by_cases e2 : (nb : Int) = V
   all_goals
    have E1 := beq_t e1
    first | have E2 := beq_t e2 | have E2 := beq_f e2
    simp only [hio,e1,e2,decide_true,decide_false,Bool.true_or,Bool.or_true,Bool.true_and,Bool.and_true,Bool.and_false] at hB2;subst hB2;clear e1 e2 hio hk0;go_enter Tryz.func117,Tryz.ntmps117;go_wp2_with (go_at_call 75;refine (jci _ _ _ _).mono ?_;rintro e w1 ⟨rfl,rfl⟩;first | rw [K1.out] | rw [K2.out] | rw [K3.out]);refine (C.out _ (Ext.refl _)).mono ?_;rintro e w1 ⟨rfl,e1⟩
    have x := e1.trans (Ext.drew w1);have d0 := x.cell f0;have d1 := x.cell f1;have d2 := x.cell f2;have d3 := x.cell f3;have d4 := x.cell f4;go_wp2;refine jaf (F := fun _ _ _ => True) (by kernel_rfl) (by kernel_rfl) (by kernel_rfl) ?_;intro wf hwf
    repeat (first
     | ((first | (refine jat rfl ?_) | (refine x_mv rfl rfl rfl ?_) | (refine x_as rfl rfl rfl ?_));simp only [Act.put,jab,pu1,pu2,pu3,pu4,pu5])
     | (refine ja3 rfl fun K hK w1 hw1 => ?_;have k0 := hw1.cell (d0);have k1 := hw1.cell (d1);have k2 := hw1.cell (d2);have k3 := hw1.cell (d3);have k4 := hw1.cell (d4);go_simp;refine hK _ ?_;clear hK K k0 k1 k2 k3 k4 hw1 w1))
    refine ja4 ?_;go_wp2;go_ret;exact ⟨rfl,x.trans hwf⟩
 · have E1 := beq_f e1
   simp only [hio,e1,decide_true,decide_false,Bool.true_or,Bool.or_true,Bool.true_and,Bool.false_and,Bool.and_false] at hB2;subst hB2;clear e1 hio hk0;go_enter Tryz.func117,Tryz.ntmps117;go_wp2_with (go_at_call 75;refine (jci _ _ _ _).mono ?_;rintro e w1 ⟨rfl,rfl⟩;first | rw [K1.out] | rw [K2.out] | rw [K3.out]);refine (C.out _ (Ext.refl _)).mono ?_;rintro e w1 ⟨rfl,e1⟩
   have x := e1.trans (Ext.drew w1);have d0 := x.cell f0;have d1 := x.cell f1;have d2 := x.cell f2;have d3 := x.cell f3;have d4 := x.cell f4;go_wp2;refine jaf (F := fun _ _ _ => True) (by kernel_rfl) (by kernel_rfl) (by kernel_rfl) ?_;intro wf hwf
   repeat (first
    | ((first | (refine jat rfl ?_) | (refine x_mv rfl rfl rfl ?_) | (refine x_as rfl rfl rfl ?_));simp only [Act.put,jab,pu1,pu2,pu3,pu4,pu5])
    | (refine ja3 rfl fun K hK w1 hw1 => ?_;have k0 := hw1.cell (d0);have k1 := hw1.cell (d1);have k2 := hw1.cell (d2);have k3 := hw1.cell (d3);have k4 := hw1.cell (d4);go_simp;refine hK _ ?_;clear hK K k0 k1 k2 k3 k4 hw1 w1))
   refine ja4 ?_;go_wp2;go_ret;exact ⟨rfl,x.trans hwf⟩
theorem fcell {w w1 : World} {p : Option Addr} {css : List (List Value)} {s n i : Nat} {cs : List Value} {v : Value} (hp : Cs w p css.flatten) (h6 : ∀ c ∈ css,c.length = s) (h7 : css.length = n) (hi : i < n) (hc : css[i]? = some cs) (j : Nat) (hx : Ext w w1) (hv : cs[j]? = some v) :
 w1.cell? ((adr p (i * s)).add j) = some v := by
 obtain ⟨_,rfl⟩ := List.getElem?_eq_some_iff.1 hc;have hj : j < s := by have := (List.getElem?_eq_some_iff.1 hv).1;rwa [h6 _ (List.getElem_mem _)] at this
 have h1 := (hp.ext hx).cell (i * s + j) v (by rw [flat_get h6 (by omega) hj];exact hv);unfold adr at h1 ⊢;rw [Go.Proofs.YtlimabbeaimdgaaGreat.add_add];exact h1
end Go.Proofs.YtlimabbeaimdgaaGreat
