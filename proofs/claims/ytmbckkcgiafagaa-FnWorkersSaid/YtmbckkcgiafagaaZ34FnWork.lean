/- A part of the proofs: RLst, TnSg, Box, WthP. -/
import Derived.Test.YtmbckkcgiafagaaZ33FnWork
import Derived.Test.YtmbckkcgiafagaaZ11FnWork
import Derived.Test.YtmbckkcgiafagaaZ03FnWork
import Derived.Test.YtmbckkcgiafagaaZ06FnWork
import Derived.Test.YtmbckkcgiafagaaZ08FnWork
import Derived.Test.YtmbckkcgiafagaaZ10FnWork
import Derived.Test.YtmbckkcgiafagaaZ16FnWork
import Derived.Test.YtmbckkcgiafagaaZ27FnWork
import Derived.Laws.CopyRow
import Derived.Test.YtmbckkcgiafagaaZ26FnWork
import Derived.Test.YtmbckkcgiafagaaZ09FnWork
set_option linter.unusedSimpArgs false
set_option linter.unusedVariables false
set_option maxRecDepth 100000
set_option maxHeartbeats 16000000
namespace Go.Proofs.Ytmbckkcgiafagaa.lReduceLists
open Go.RowKit
section
variable {P : Program} {w : World} {ops : Array Oper} {rest : List Oper} {o1 o2 : Oper} {a : Act} {Q : Exit → Act → World → Prop}
theorem wl_idxloadW {t e b : Nat} {z : Value} [SlTy P t e 1 z b] [Cell1 P e] {x ix : Operand} {d : Tmp} (hw1 : Region.wanted o1 (yielded ops a.tmps) = true) (ho1 : o1.op = .indexAddr t x ix) (hw2 : ∀ y,Region.wanted o2 (yielded ops (a.put o1.dst y).tmps) = true) (ho2 : o2.op = .load e (.tmp d))
 {p : Option Addr} {n c : Nat} {k : IntKind} {i : Int} {j : Nat} (hd : ∀ y,(a.put o1.dst y).eval (.tmp d) = y)
 (hx : a.eval x = .slice p n c) (hi : a.eval ix = .int k i) (hij : i = j) {vs : List Value} (hc : Cs w p vs) (hvn : vs.length = n) (hn : j < n) {u : Value} (hu : vs[j]? = some u)
 (h : wpList P ops Q rest ((a.put o1.dst (.pointer (some (adr p j)))).put o2.dst u) w) : wpList P ops Q (o1 :: o2 :: rest) a w := by
 subst hij;have hp : p.isSome = true := hc.isS (by intro h0;rw [h0] at hu;simp at hu);refine wl_valueW hw1 (w' := w) (v := .pointer (some (adr p j))) (by simp [execOp,ho1,hx,hi,run_indexAt (P := P) (t := t) (s := 1) hp (show (0 : Int) ≤ (j : Int) by omega) (show (j : Int) < n by omega)]) ?_;exact wl_valueW (hw2 _) (by simp [execOp,ho2,hd,jch (hc.cell _ _ hu)]) h
end
def len0 (D : List (List Nat)) : Nat := (D.getD 0 []).length
def evenB (D : List (List Nat)) : Bool := !anyTo (fun i => !decide ((D.getD i []).length = len0 D)) D.length
theorem evenB_L {D : List (List Nat)} (h : evenB D = true) : EvenL D (len0 D) := by
 intro i hi;refine Classical.byContradiction fun hn => ?_
 unfold evenB at h;rw [jbx.2 ⟨i,hi,by simp;exact hn⟩] at h
 cases h
def okR (k : Int) (D : List (List Nat)) : Prop := inB k 0 2 = true ∧ 1 ≤ D.length ∧ D.length ≤ 8 ∧ len0 D ≤ 512 ∧ evenB D = true
instance (k : Int) (D : List (List Nat)) : Decidable (okR k D) := by unfold okR;infer_instance
def res (k : Int) (D : List (List Nat)) : List Nat × Bool := if okR k D then (redF k D,true) else ([],false)
theorem res_no {k : Int} {D : List (List Nat)} (h : ¬ okR k D) : res k D = ([],false) := by unfold res;rw [if_neg h]
theorem out_noL {w w' : World} {en : Ending} (h : en = .returned (.tuple #[.slice none 0 0,.bool false])) (hx : Ext w w') : OutOk w (.sl .flt) ([],false) en w' :=
 ⟨[.slice none 0 0],[],h,own_nil,by simp,by simp,hx⟩
theorem own_outF {w w' : World} {q : Option Addr} {c : Nat} {xs : List Nat} {vs : List Value} {e : Ending} {B : Nat} (hB : w.heap.size ≤ B) (h : w'.ownsRow B 33 1 (.slice q xs.length c) xs.length vs) (hf : F32s vs xs) (he : e = .returned (.tuple #[.slice q xs.length c,.bool true])) (hx : Ext w w') : OutOk w (.sl .flt) (xs,true) e w' := by
 have h1 := own_flts.2 ⟨q,c,vs,rfl,jcg h,hf,(ja1 h).1,(ja1 h).2,rfl⟩;refine ⟨[.slice q xs.length c],_,he,h1,?_,?_,hx⟩
 · cases q <;> simp [jaf]
 · intro b hb
   cases q with
   | none => simp [jaf] at hb
   | some a => simp [jaf] at hb;subst hb;exact Nat.le_trans hB (jap h _ rfl)
theorem reduce_any (k : Int) (p : Option Addr) (n c N : Nat) (us : List Value) (l : List (List Nat)) (w : World) (hk : inB k 0 2 = true) (F0 : Fls w p n us l) (hn1 : 1 ≤ n) (hn : n ≤ 8) (hc : n ≤ c) (hE : EvenL l N) (hN : N ≤ 1048576) :
 Calls Try.prog 53 #[.int .i64 k,.slice p n c] w (RetFl w (redF k l)) := by
 rw [jaz] at hk;rcases (show k = 0 ∨ k = 1 ∨ k = 2 by omega) with rfl | rfl | rfl
 · exact reduce_line p n c N us l w F0 hn1 hn hc hE hN
 · exact reduce_tree p n c N us l w F0 hn1 hn hc hE hN
 · exact reduce_ring p n c N us l w F0 hn1 hn hE hN
theorem isReduce_any (k : Int) (w : World) : Calls Try.prog 50 #[.int .i64 k] w fun e w' => e = .returned (.bool (inB k 0 2)) ∧ w = w' := by
 have A := hid (fun W => ja4 k 0 2 W);generalize inB k 0 2 = b at *;go_enter Try.func50,Try.ntmps50;go_wp2_with fail;refine (A.out _).mono ?_;rintro e w' ⟨rfl,rfl⟩
 go_wp2;go_ret;exact ⟨rfl,rfl⟩
theorem clos_ok (b : Nat) (p q q0 : Option Addr) (n c m d N c0 : Nat) (us : List Value) (w : World) (g0 : w.cell? ⟨b,0,none⟩ = some (.slice p n c)) (hp : Cs w p us) (hl : us.length = n) (hn : 1 ≤ n) (h0 : us[0]? = some (.slice q0 N c0)) (hm : m ≤ maxLen) (hN : N ≤ maxLen) :
 Calls Try.prog 52 #[.slice q m d,.pointer (some ⟨b,0,none⟩)] w (RetB w (!decide (m = N))) := by
 unfold maxLen at hm hN;have H0 := hid h0;have HL := hid hl;clear h0 hl
 by_cases h : m = N
 · have Q := bne_f (show (m : Int) = N by omega)
   rw [decide_eq_true h];clear h;go_enter Try.func52,Try.ntmps52;go_wp2_with ((with_reducible show gx2);refine jar rfl rfl rfl rfl (fun _ => rfl) rfl rfl hp HL.out (by omega) (by omega) ?_;intro u hu;replace hu := H0.out.symm.trans hu;cases hu);go_ret;exact ⟨rfl,Ext.refl _⟩
 · have Q := bne_t (show ¬ (m : Int) = N by omega)
   rw [decide_eq_false h];clear h;go_enter Try.func52,Try.ntmps52;go_wp2_with ((with_reducible show gx2);refine jar rfl rfl rfl rfl (fun _ => rfl) rfl rfl hp HL.out (by omega) (by omega) ?_;intro u hu;replace hu := H0.out.symm.trans hu;cases hu);go_ret;exact ⟨rfl,Ext.refl _⟩
theorem impl_any (a0 : Int) (cs1 : List Value) (D1 : List (List Nat)) (w : World) (h1 : Rep w (.sl (.sl .flt)) cs1 D1) : Calls Try.prog 13 #[.int .i64 a0,ofCs (.sl (.sl .flt)) cs1] w (OutOk w (.sl .flt) (res a0 D1)) := by
 obtain ⟨p,c,rfl,_⟩ := rep_val h1;obtain ⟨p',c',us,he0,F,hnc,hcm,hlm⟩ := fls_of h1
 cases he0
 simp only [ofCs,Sh.agg,if_false,Bool.false_eq_true,List.headD_cons];have A := hid (fun W => isReduce_any a0 W);have E0 := Ext.alloc w (.cells #[.slice p D1.length c] 30);have hnm : D1.length ≤ maxLen := Nat.le_trans hnc hcm;have HLm := hid hlm;have hcnt := F.cnt;clear h1
 cases hb0 : inB a0 0 2
 · rw [res_no (fun h => by have := h.1;rw [hb0] at this;cases this)]
   rw [hb0] at A;clear F hb0 hcnt;generalize D1.length = n at *;unfold maxLen at hnm;go_enter Try.func13,Try.ntmps13;go_wp2_with fail;refine (A.out _).mono ?_;rintro e w1 ⟨rfl,rfl⟩
   go_wp2;go_ret2;exact out_noL rfl E0
 rw [hb0] at A
 by_cases hn1 : 1 ≤ D1.length
 rotate_left
 · rw [res_no (fun h => hn1 h.2.1)]
   clear F hb0 hcnt;generalize D1.length = n at *;unfold maxLen at hnm;have hd1 : decide ((n : Int) < 1) = true := by simp;omega
   go_enter Try.func13,Try.ntmps13;go_wp2_with fail;refine (A.out _).mono ?_;rintro e w1 ⟨rfl,rfl⟩
   go_wp2;go_ret2;exact out_noL rfl E0
 by_cases hn8 : D1.length ≤ 8
 rotate_left
 · rw [res_no (fun h => hn8 h.2.2.1)]
   clear F hb0 hcnt;generalize D1.length = n at *;unfold maxLen at hnm;have hd1 : decide ((n : Int) < 1) = false := by simp;omega
   have hd2 : decide ((8 : Int) < (n : Int)) = true := by simp;omega
   go_enter Try.func13,Try.ntmps13;go_wp2_with fail;refine (A.out _).mono ?_;rintro e w1 ⟨rfl,rfl⟩
   go_wp2;go_ret2;exact out_noL rfl E0
 obtain ⟨q0,c0,vs0,a1,a2,a3,a4⟩ := F.at' 0 (by omega);have hl0 := HLm.out 0 (by omega);have HA0 := hid a1;have hp := F.cs;have hp1 := hp.ext E0;have Hcnt := hid hcnt
 by_cases h512 : len0 D1 ≤ 512
 rotate_left
 · rw [res_no (fun h => h512 h.2.2.2.1)]
   unfold len0 at h512;clear F hb0 a1 a3 hcnt hlm;generalize (D1.getD 0 []).length = N at *;generalize D1.length = n at *;unfold maxLen at hnm hl0;have hd1 : decide ((n : Int) < 1) = false := by simp;omega
   have hd2 : decide ((8 : Int) < (n : Int)) = false := by simp;omega
   have hd3 : decide ((512 : Int) < (N : Int)) = true := by simp;omega
   go_enter Try.func13,Try.ntmps13;go_wp2_with fail;refine (A.out _).mono ?_;rintro e w1 ⟨rfl,rfl⟩
   go_wp2_with ((with_reducible show gx2);refine wl_idxloadW (j := 0) rfl rfl (fun _ => rfl) rfl (fun _ => rfl) rfl rfl rfl hp1 Hcnt.out (by omega) HA0.out ?_);go_ret2;exact out_noL rfl E0
 have hq : ∀ W,Ext (w.alloc (.cells #[.slice p D1.length c] 30)) W → PredOk 52 #[.pointer (some ⟨w.heap.size,0,none⟩)] us (fun i => !decide ((D1.getD i []).length = len0 D1)) W := by
  intro W hW i u W2 hu h2;have hi : i < D1.length := by rw [← hcnt];exact (List.getElem?_eq_some_iff.1 hu).1
  obtain ⟨q,c1,vs,e1,_,_,_⟩ := F.at' i hi;rw [hu] at e1
  cases e1
  exact clos_ok w.heap.size p q q0 D1.length c _ c1 _ c0 us W2 ((hW.trans h2).cell (by simp)) (hp1.ext (hW.trans h2)) hcnt hn1 HA0.out (HLm.out i hi) hl0
 have C := hid (fun W (h : Ext (w.alloc (.cells #[.slice p D1.length c] 30)) W) => containsFuncSl_any 52 #[.pointer (some ⟨w.heap.size,0,none⟩)] (by intro args w;kernel_rfl) p D1.length c us (fun i => !decide ((D1.getD i []).length = len0 D1)) W hcnt hnm (hp1.ext h) (hq W h))
 cases hev : evenB D1
 · rw [res_no (fun h => by have := h.2.2.2.2;rw [hev] at this;cases this)]
   unfold evenB at hev;rw [Bool.not_eq_false'] at hev;rw [hev] at C;unfold len0 at h512;clear F hb0 a1 a3 hcnt hlm hev hq HLm;generalize (D1.getD 0 []).length = N at *;generalize D1.length = n at *;unfold maxLen at hnm hl0;have hd1 : decide ((n : Int) < 1) = false := by simp;omega
   have hd2 : decide ((8 : Int) < (n : Int)) = false := by simp;omega
   have hd3 : decide ((512 : Int) < (N : Int)) = false := by simp;omega
   go_enter Try.func13,Try.ntmps13;go_wp2_with fail;refine (A.out _).mono ?_;rintro e w1 ⟨rfl,rfl⟩
   go_wp2_with ((with_reducible show gx2);refine wl_idxloadW (j := 0) rfl rfl (fun _ => rfl) rfl (fun _ => rfl) rfl rfl rfl hp1 Hcnt.out (by omega) HA0.out ?_);refine (C.out _ (Ext.refl _)).mono ?_;rintro e w2 ⟨rfl,e2⟩
   go_wp2;go_ret2;exact out_noL rfl (E0.trans e2)
 · have hok : okR a0 D1 := ⟨hb0,hn1,hn8,h512,hev⟩
   have hEL := evenB_L hev;rw [show res a0 D1 = (redF a0 D1,true) from by unfold res;rw [if_pos hok]];have R := hid (fun W (h : Ext w W) => reduce_any a0 p D1.length c (len0 D1) us D1 W hb0 (F.ext h) hn1 hn8 hnc hEL (by omega));unfold evenB at hev;rw [Bool.not_eq_true'] at hev;rw [hev] at C;unfold len0 at h512;clear F hb0 a1 a3 hcnt hlm hev hq HLm hok hEL;generalize redF a0 D1 = red at *;generalize (D1.getD 0 []).length = N at *;generalize D1.length = n at *;unfold maxLen at hnm hl0;have hd1 : decide ((n : Int) < 1) = false := by simp;omega
   have hd2 : decide ((8 : Int) < (n : Int)) = false := by simp;omega
   have hd3 : decide ((512 : Int) < (N : Int)) = false := by simp;omega
   have x0 : (w.alloc (.cells #[.slice p n c] 30)).cell? ⟨w.heap.size,0,none⟩ = some (.slice p n c) := by simp
   go_enter Try.func13,Try.ntmps13;go_wp2_with fail;refine (A.out _).mono ?_;rintro e w1 ⟨rfl,rfl⟩
   go_wp2_with ((with_reducible show gx2);refine wl_idxloadW (j := 0) rfl rfl (fun _ => rfl) rfl (fun _ => rfl) rfl rfl rfl hp1 Hcnt.out (by omega) HA0.out ?_);refine (C.out _ (Ext.refl _)).mono ?_;rintro e w2 ⟨rfl,e2⟩
   have x1 := e2.cell x0;go_wp2_with fail;refine (R.out _ (E0.trans e2)).mono ?_;rintro e w3 ⟨q3,c3,vs3,rfl,own3,hf3,e3⟩
   go_wp2;go_ret2;exact own_outF (E0.trans e2).size own3 hf3 rfl ((E0.trans e2).trans e3)
theorem impl_ok (a0 : Int) (cs1 : List Value) (D1 : List (List Nat)) (w : World) (h1 : Rep w (.sl (.sl .flt)) cs1 D1) (_ : Fit .int a0) (_ : Fit (.sl (.sl .flt)) D1) : Calls Try.prog 13 #[.int .i64 a0,ofCs (.sl (.sl .flt)) cs1] w (OutOk w (.sl .flt) (res a0 D1)) :=
 impl_any a0 cs1 D1 w h1
end Go.Proofs.Ytmbckkcgiafagaa.lReduceLists
namespace Go.Proofs.Ytmbckkcgiafagaa
open Go.RowKit
def onesL (ys : List Nat) : List (List Nat) := ys.map fun y => [y]
theorem onesL_take {lo : List Nat} {i : Nat} (h : i < lo.length) : onesL (lo.take (i + 1)) = onesL (lo.take i) ++ [[lo.getD i 0]] := by
 unfold onesL;rw [List.take_add_one,List.getElem?_eq_getElem h,List.map_append,List.getD_eq_getElem?_getD,List.getElem?_eq_getElem h];rfl
theorem onesL_even (lo : List Nat) : EvenL (onesL lo) 1 := by
 intro i hi;unfold onesL at hi ⊢;rw [List.getD_eq_getElem?_getD,List.getElem?_eq_getElem hi];simp
theorem own_flt1 {w : World} (b : Nat) {x : Nat} (h : cn .f32 b = x) : Own (w.alloc (.cells #[.float .f32 b] 33)) (.sl .flt) [.slice (some ⟨w.heap.size,0,none⟩) 1 1] [x] [w.heap.size] :=
 own_flts.2 ⟨some ⟨w.heap.size,0,none⟩,1,[.float .f32 b],rfl,.inr ⟨w.heap.size,_,_,rfl,heap_alloc_new w _,rfl⟩,F32s.cons rfl h F32s.nil,Nat.le_refl 1,by unfold maxLen;decide,rfl⟩
theorem grow_fls {w : World} {B : Nat} {te : TypeId} {v : Value} {l : List (List Nat)} {css : List (List Value)} {bss : List (List Nat)} (h : jaj w B te (.sl .flt) v l css bss) : ∃ p c us,v = .slice p l.length c ∧ Fls w p l.length us l ∧ l.length ≤ c := by
 obtain ⟨bs,o,_,_⟩ := h.own;obtain ⟨p,c,us,h1,h2,h3,_⟩ := fls_of o.rep;exact ⟨p,c,us,h1,h2,h3⟩
theorem wgLists_even {L : List jab.T} {R K K2 nk : Nat} {xs ys : List Nat} (hg : jcr L R K xs.length R K2 ys.length = true) (hxl : xs.length = R * K) (hyl : ys.length = R * K2) (hk1 : 1 ≤ nk) (hkR : nk ≤ R) : EvenL (jcf L K xs K2 ys R nk nk) (parF L).length := by
 intro i hi;rw [wgLists_len] at hi;unfold jcf;rw [List.getD_eq_getElem?_getD,List.getElem?_map,List.getElem?_range hi];exact wgList_len hg hxl hyl hk1 hkR hi
theorem parF_gr {L : List jab.T} {r k r2 k2 : Int} {nx ny : Nat} (hg : jcr L r k nx r2 k2 ny = true) : (parF L).length ≤ 1536 := by
 have h := (gradB_ten hg).2.2.2.1;unfold headB at h;rw [Bool.and_eq_true] at h;exact small_off (small_of (modOk h.1))
def sgB (L : List jab.T) (r k : Int) (nx : Nat) (r2 k2 : Int) (ny : Nat) (wk kd : Int) : Bool := wgB L r k nx r2 k2 ny wk && inB kd 0 2
def sgList (L : List jab.T) (r k : Int) (xs : List Nat) (k2 : Int) (ys : List Nat) (wk kd : Int) : List Nat := redF kd (jcf L k.toNat xs k2.toNat ys r.toNat wk.toNat wk.toNat)
def sgLoss (L : List jab.T) (r k : Int) (xs : List Nat) (k2 : Int) (ys : List Nat) (wk kd : Int) : Nat := (redF kd (onesL (jb8 L k.toNat xs k2.toNat ys r.toNat wk.toNat wk.toNat))).getD 0 0
def SgYes (w : World) (L : List jab.T) (r k : Int) (xs : List Nat) (r2 k2 : Int) (ys : List Nat) (wk kd : Int) (e : Ending) (w' : World) : Prop :=
 sgB L r k xs.length r2 k2 ys.length wk kd = true ∧ ∃ (q : Option Addr) (c b : Nat) (us : List Value),e = .returned (.tuple #[.slice q (parF L).length c,.float .f32 b,.bool true]) ∧ (sgList L r k xs k2 ys wk kd).length = (parF L).length ∧ w'.ownsRow w.heap.size 33 1 (.slice q (parF L).length c) (parF L).length us ∧ F32s us (sgList L r k xs k2 ys wk kd) ∧ cn .f32 b = sgLoss L r k xs k2 ys wk kd
def SgRet (w : World) (L : List jab.T) (r k : Int) (xs : List Nat) (r2 k2 : Int) (ys : List Nat) (wk kd : Int) (e : Ending) (w' : World) : Prop :=
 (sgB L r k xs.length r2 k2 ys.length wk kd = false ∧ e = .returned (.tuple #[.slice none 0 0,.float .f32 0,.bool false])) ∨ SgYes w L r k xs r2 k2 ys wk kd e w'
theorem SharedGradients_any (p q q2 : Option Addr) (n c nx cx ny cy : Nat) (r k r2 k2 wk kd : Int) (css : List (List Value)) (L : List jab.T) (xs ys : List Nat) (us vs : List Value) (w : World) (hL : Lays w p n css L) (hxl : xs.length = nx) (hyl : ys.length = ny) (hnx : nx ≤ maxLen) (hny : ny ≤ maxLen) (hcx : nx ≤ cx) (hcy : ny ≤ cy) (hqx : Cs w q us) (hfx : F32s us xs) (hqy : Cs w q2 vs) (hfy : F32s vs ys) :
 Calls Try.prog 20 #[.agg #[.slice p n c],.agg #[.int .i64 r,.int .i64 k,.slice q nx cx],.agg #[.int .i64 r2,.int .i64 k2,.slice q2 ny cy],.int .i64 wk,.int .i64 kd] w fun e w' => SgRet w L r k xs r2 k2 ys wk kd e w' ∧ Ext w w' := by
 obtain ⟨W0,hW0⟩ : ∃ W0,W0 = ((w.alloc (.cells #[.slice p n c] 38)).alloc (.cells #[.int .i64 r,.int .i64 k,.slice q nx cx] 27)).alloc (.cells #[.int .i64 r2,.int .i64 k2,.slice q2 ny cy] 27) := ⟨_,rfl⟩;obtain ⟨E0,s0,b0,b1,b2⟩ := box3 hW0;have K := hid (WorkerGradients_any p q q2 n c nx cx ny cy r k r2 k2 wk css L xs ys us vs W0 (hL.ext E0) hxl hyl hnx hny hcx hcy (hqx.ext E0) hfx (hqy.ext E0) hfy);have A := hid (fun W => lReduceLists.isReduce_any kd W);clear b0 b1 b2 hL hxl hyl hqx hfx hqy hfy;go_enter Try.func20,Try.ntmps20;go_wp2_with fail;rw [← hW0];clear hW0;refine K.out.mono ?_;rintro e w2 ⟨⟨hg,rfl⟩ | ⟨hg,v,css',bss',ql,cl,vs9,rfl,hW⟩,e1⟩
 · have HG := hid hg
   clear hg K;go_wp2;refine bodyPost_ret (results_tmp3 (t := 10) (u := 11) (v := 12) (by kernel_rfl) _ _ _) rfl ?_;exact ⟨Or.inl ⟨by unfold sgB;rw [HG.out];rfl,rfl⟩,E0.trans e1⟩
 clear K;obtain ⟨hgr,_,hr2,R,K,K2,nk,hR,hK,hK2,hnk,m1,m2,_,_,_,_,_,hk1,hk8,hkR⟩ := wgB_nat hg;have hwk : wk.toNat = nk := by omega
 have hrn : r.toNat = R := by omega
 have hkn : k.toNat = K := by omega
 have hk2n : k2.toNat = K2 := by omega
 have HEv : Hid (EvenL (jcf L k.toNat xs k2.toNat ys r.toNat nk nk) (parF L).length) := hid (by rw [hrn,hkn,hk2n];exact wgLists_even (by rw [hr2,hR,hK,hK2] at hgr;exact hgr) m1 m2 hk1 hkR);have hNP : (parF L).length ≤ 1048576 := Nat.le_trans (parF_gr hgr) (by decide);have HWK := hid hwk;rw [hwk] at hW ⊢;obtain ⟨pv,cv,uv,rfl,FLs,hcv⟩ := grow_fls hW.ls;rw [wgLists_len] at FLs hcv ⊢;have hLO := jbb hW.fs;have hLF := hW.fl;obtain ⟨Ls,hLs⟩ : ∃ x,jcf L k.toNat xs k2.toNat ys r.toNat nk nk = x := ⟨_,rfl⟩;obtain ⟨lo,hlo⟩ : ∃ x,jb8 L k.toNat xs k2.toNat ys r.toNat nk nk = x := ⟨_,rfl⟩;have hlol : lo.length = nk := by rw [← hlo,wgLosses_len]
 rw [hLs] at FLs HEv;rw [hlo] at hLF;have HLs := hid hLs;have Hlo := hid hlo;have HLN := hid hlol;have HLT := hid (fun i (hi : i ≤ nk) => show (onesL (lo.take i)).length = i by unfold onesL;rw [List.length_map,List.length_take];omega);have HTK := hid (fun i (hi : i < nk) => onesL_take (lo := lo) (i := i) (by omega));have HTN := hid (show onesL (lo.take nk) = onesL lo by rw [List.take_of_length_le (by omega)]);have HEo := hid (onesL_even lo);have HGG := hid hg;obtain ⟨NP,hNPe⟩ : ∃ NP,(parF L).length = NP := ⟨_,rfl⟩;rw [hNPe] at HEv hNP;have HNP := hid hNPe;go_wp2_with fail;refine (A.out _).mono ?_;rintro e w3 ⟨rfl,rfl⟩
 cases hkk : inB kd 0 2
 · have HK := hid hkk
   clear hgr hr2 hR hK hK2 m1 m2 hwk hrn hkn hk2n hLs hlo hlol hNPe hW hg hnk;clear hkk;go_wp2;refine bodyPost_ret (results_tmp3 (t := 10) (u := 11) (v := 12) (by kernel_rfl) _ _ _) rfl ?_;exact ⟨Or.inl ⟨by unfold sgB;rw [HGG.out,HK.out];rfl,rfl⟩,E0.trans e1⟩
 · clear hgr hr2 hR hK hK2 m1 m2 hwk hrn hkn hk2n hLs hlo hlol hNPe hW hg hnk
   go_wp2;obtain ⟨W3,hW3⟩ : ∃ W3,W3 = w2.alloc (.cells #[] 25) := ⟨_,rfl⟩;have E3 : Ext w2 W3 := by rw [hW3];exact Ext.alloc _ _
   have O3 : W3.ownsRow w2.heap.size 25 1 (.slice (some ⟨w2.heap.size,0,none⟩) 0 0) 0 [] := by rw [hW3];exact World.ownsRow_made w2 #[] 0 (Nat.le_refl _) (by decide) rfl
   rw [← hW3];clear hW3;go_loopw [16,38] (fun ov iv wr => ∃ (i : Nat) (css : List (List Value)) (bss : List (List Nat)),i ≤ nk ∧ iv = .int .i64 (i : Int) ∧ jaj wr w2.heap.size 25 (.sl .flt) ov (onesL (lo.take i)) css bss ∧ Ext w2 wr) (fun _ iv _ => nk - (intOf iv).toNat)
   case atStart => exact ⟨0,[],[],by omega,rfl,jaj.empty O3,E3⟩
   case round =>
    clear O3 E3;obtain ⟨i,css1,bss1,hi,rfl,hG,he⟩ := hrel
    by_cases hlt : i < nk
    · have hcs := hLO.ext he
      have Hln := hid (HLT.out i hi);have Hon := hid (HTK.out i hlt);have hrow := hG.row;rw [Hln.out] at hrow;have hsz := he.size;go_wp2_with (first | ((with_reducible show gx2);refine jcx rfl rfl rfl rfl (fun _ => rfl) rfl rfl hcs hLF HLN.out (by omega) (by omega) ?_;intro r0 g0;rw [Int.toNat_natCast] at g0;have G0 := hid g0;clear g0) | ((with_reducible show gx6);refine jbj (u := .slice (some ⟨wr.heap.size,0,none⟩) 1 1) rfl rfl rfl rfl rfl (by rfl) (by rfl) (fun _ => rfl) (fun _ => rfl) (jai hrow (Ext.alloc _ _)) (by unfold maxLen;omega) (by omega) (by simp;omega) ?_;intro g6 c6 w6 h6 gr6 hw6) | fail);go_roundw
      case rel =>
       have I := hG.snoc (Ext.alloc wr _) (own_flt1 r0 G0.out) (by simp) (by simp) he.size Hln.out h6 gr6 hw6;rw [← Hon.out] at I;exact ⟨i + 1,_,_,by omega,by go_num,I,(he.trans (Ext.alloc wr _)).grown gr6 (jap hrow)⟩
      case measure => simp [intOf];omega
    · obtain rfl : i = nk := by omega
      obtain ⟨po,co,uo,rfl,FLo,hco⟩ := grow_fls hG;have hlo2 := HLT.out i (Nat.le_refl _);rw [hlo2] at FLo hco ⊢;rw [HTN.out] at FLo;have eD := Ext.drew wr;have C1 := hid (fun W (h : Ext wr W) => lReduceLists.reduce_any kd pv i cv NP uv Ls W hkk (FLs.ext (he.trans h)) hk1 hk8 hcv HEv.out hNP);have C2 := hid (fun W (h : Ext wr W) => lReduceLists.reduce_any kd po i co 1 uo (onesL lo) W hkk (FLo.ext h) hk1 hk8 hco HEo.out (by decide));obtain ⟨RL,hRL⟩ : ∃ x,redF kd Ls = x := ⟨_,rfl⟩;obtain ⟨RO,hRO⟩ : ∃ x,redF kd (onesL lo) = x := ⟨_,rfl⟩;rw [hRL] at C1;rw [hRO] at C2;have HRL := hid hRL;have HRO := hid hRO;have HN1 := hid (show RL.length = NP by rw [← hRL];exact HEv.out.red (by rw [FLs.len];exact hk1) kd);have HN2 := hid (show RO.length = 1 by rw [← hRO];exact HEo.out.red (by rw [FLo.len];exact hk1) kd);clear hRL hRO hG hlo2 FLo FLs;go_wp2;refine jam (n := 10) (S := fun W => Ext wr.drew W) (by kernel_rfl) rfl ?_;have hS0 : Ext wr.drew wr.drew := Ext.refl _;refine jad (k := 0) (.int .i64 kd) (by kernel_rfl) rfl rfl (fun _ _ _ h => h) hS0 (fun W hW => by go_simp) ?_;simp only [Act.put,jac,pu1,pu2,pu3,pu4,pu5];refine jad (k := 1) (.slice pv i cv) (by kernel_rfl) rfl rfl (fun _ _ _ h => h) hS0 (fun W hW => by go_simp) ?_;simp only [Act.put,jac,pu1,pu2,pu3,pu4,pu5];refine jad (k := 3) (.int .i64 kd) (by kernel_rfl) rfl rfl (fun _ _ _ h => h) hS0 (fun W hW => by go_simp) ?_;simp only [Act.put,jac,pu1,pu2,pu3,pu4,pu5];refine jad (k := 4) (.slice po i co) (by kernel_rfl) rfl rfl (fun _ _ _ h => h) hS0 (fun W hW => by go_simp) ?_;simp only [Act.put,jac,pu1,pu2,pu3,pu4,pu5];refine jal (k := 2) (by kernel_rfl) ?_;refine jaw (f := 53) (args := #[.int .i64 kd,.slice pv i cv]) rfl rfl rfl Try.func53 rfl (by kernel_rfl) (by simp [Act.eval]) (C1.out wr.drew eD) ?_;rintro e W4 ⟨q5,c5,vs5,rfl,o5,f5,e4⟩
      rw [HN1.out] at o5 ⊢;refine ⟨_,rfl,e4,?_⟩;simp only [Act.put,jac,pu1,pu2,pu3,pu4,pu5];refine jal (k := 5) (by kernel_rfl) ?_;refine jaw (f := 53) (args := #[.int .i64 kd,.slice po i co]) rfl rfl rfl Try.func53 rfl (by kernel_rfl) (by simp [Act.eval]) (C2.out W4 (eD.trans e4)) ?_;rintro e W5 ⟨q6,c6,vs6,rfl,o6,f6,e5⟩
      rw [HN2.out] at o6 ⊢;have hS5 : Ext wr.drew W5 := e4.trans e5;refine ⟨_,rfl,hS5,?_⟩;simp only [Act.put,jac,pu1,pu2,pu3,pu4,pu5];refine jad (k := 8) (.slice q5 NP c5) (by kernel_rfl) rfl rfl (fun _ _ _ h => h) hS5 (fun W hW => by go_simp) ?_;simp only [Act.put,jac,pu1,pu2,pu3,pu4,pu5];obtain ⟨rb,hr1,hr2⟩ := f6.2 0 (by rw [HN2.out];decide);have cs6 := jbb o6;have hq6 : q6.isSome = true := cs6.isS (by intro h;rw [h] at hr1;simp at hr1);have hcell := cs6.cell 0 _ hr1;have Hr2 := hid hr2;clear hr2;refine jal (k := 6) (by kernel_rfl) ?_;refine jb9 (v := .pointer (some (adr q6 0))) (w' := W5) rfl rfl (by simp [execOp,Act.eval,run_indexAt (P := Try.prog) (t := 25) (s := 1) hq6 (show (0 : Int) ≤ 0 by decide) (show (0 : Int) < ((1 : Nat) : Int) by decide)]) ?_;refine ⟨hS5,?_⟩;simp only [Act.put,jac,pu1,pu2,pu3,pu4,pu5];refine jal (k := 7) (by kernel_rfl) ?_;refine jb9 (v := .float .f32 rb) (w' := W5) rfl rfl (by simp [execOp,Act.eval,jch hcell]) ?_;refine ⟨hS5,?_⟩;simp only [Act.put,jac,pu1,pu2,pu3,pu4,pu5];refine jal (k := 9) (by kernel_rfl) ?_;refine jb9 (v := .float .f32 rb) (w' := W5) rfl rfl (by go_simp) ?_;refine ⟨hS5,?_⟩;simp only [Act.put,jac,pu1,pu2,pu3,pu4,pu5];refine jba (k := 10) (by kernel_rfl) rfl ?_;go_wp2;refine bodyPost_ret (results_tmp3 (t := 10) (u := 11) (v := 12) (by kernel_rfl) _ _ _) rfl ?_;refine ⟨Or.inr ⟨?_,q5,c5,rb,vs5,?_,?_,?_,?_,?_⟩,((E0.trans e1).trans he).trans (eD.trans hS5)⟩
      · unfold sgB;rw [HGG.out,hkk];rfl
      · rw [HNP.out];rfl
      · unfold sgList;rw [HWK.out,HLs.out,HRL.out,HN1.out,HNP.out]
      · rw [HNP.out];exact jak (jai o5 e5) (((E0.trans e1).trans he).trans eD).size
      · unfold sgList;rw [HWK.out,HLs.out,HRL.out];exact f5
      · unfold sgLoss;rw [HWK.out,Hlo.out,HRO.out];exact Hr2.out
theorem box4 {w W0 : World} {A B C D : Array Value} {ta tb tc td : TypeId} (h : W0 = (((w.alloc (.cells A ta)).alloc (.cells B tb)).alloc (.cells C tc)).alloc (.cells D td)) : Ext w W0 ∧ W0.heap.size = w.heap.size + 4 ∧ HB W0 w.heap.size A ta ∧ HB W0 (w.heap.size + 1) B tb ∧ HB W0 (w.heap.size + 1 + 1) C tc ∧ HB W0 (w.heap.size + 1 + 1 + 1) D td := by
 subst h;obtain ⟨h1,h2,h3,h4,h5⟩ := box3 (w := w) (A := A) (B := B) (C := C) (ta := ta) (tb := tb) (tc := tc) rfl;have e3 := Ext.alloc (((w.alloc (.cells A ta)).alloc (.cells B tb)).alloc (.cells C tc)) (.cells D td);have k3 : HB _ _ _ _ := h3;have k4 : HB _ _ _ _ := h4;have k5 : HB _ _ _ _ := h5;refine ⟨h1.trans e3,by simp,k3.ext e3,k4.ext e3,k5.ext e3,?_⟩;have hs : (((w.alloc (.cells A ta)).alloc (.cells B tb)).alloc (.cells C tc)).heap.size = w.heap.size + 1 + 1 + 1 := by simp
 have h := HB.new (((w.alloc (.cells A ta)).alloc (.cells B tb)).alloc (.cells C tc)) D td;rw [hs] at h;exact h
theorem drop_take_part {A : Type} (xs : List A) (o a : Nat) : ((xs.drop o).take a) = (xs.take (o + a)).drop o := by
 rw [List.drop_take];congr 1;omega
theorem Chg.cut {S S' : Nat → Prop} {w w' : World} (h : Chg S' w w') (hs : ∀ b,S' b → S b ∨ w.heap.size ≤ b) : Chg S w w' :=
 ⟨h.os,h.tape,h.output,h.size,fun k hk hn => h.block k hk fun h' => by
  rcases hs k h' with h1 | h1
  · exact hn h1
  · omega⟩
theorem jaj.snocW {S : Nat → Prop} {w0 w w' : World} {B : Nat} {te : TypeId} {E : Sh} {v : Value} {l : List E.T} {css : List (List Value)} {bss : List (List Nat)} (h : jaj w0 B te E v l css bss) (hx : Chg S w0 w) (hS : ∀ b,S b → b < B) {cs : List Value} {d : E.T} {bs : List Nat}
 (ho : Own w E cs d bs) (hn : bs.Nodup) (hf : ∀ b ∈ bs,w0.heap.size ≤ b) (hB : B ≤ w0.heap.size) {g c n : Nat} (hln : l.length = n) (hr : w'.ownsRow B te E.sz (.slice (some ⟨g,0,none⟩) (n + 1) c) (n + 1) (css.flatten ++ cs)) (hg : w.grownBy w' v.ownBlock) (hw : v.ownBlock = some g ∨ w.heap.size ≤ g) :
 jaj w' B te E (.slice (some ⟨g,0,none⟩) (n + 1) c) (l ++ [d]) (css ++ [cs]) (bss ++ [bs]) := by
 subst hln;have lt0 := h.els.lt;have hv : ∀ k,v.ownBlock = some k → k < w0.heap.size := jcw h.row;have hsz := hx.size;have ch : Chg (fun k => some k = v.ownBlock) w w' := Chg.of_grown hg;have hlo := h.lo;refine ⟨by simpa [List.flatten_append] using hr,?_,?_,?_⟩
 · refine OwnEs.snoc ((h.els.chg hx (fun b hb hs => by have := (hlo b hb).1;have := hS b hs;omega)).chg ch (fun b hb hk => (hlo b hb).2 hk.symm)) (ho.chg ch fun b hb hk => ?_)
   have := hv b hk.symm;have := hf b hb;omega
 · rw [List.flatten_append,List.flatten_cons,List.flatten_nil,List.append_nil]
   exact nodup_app h.nodup hn lt0 hf
 · intro b hb
   rw [List.flatten_append,List.flatten_cons,List.flatten_nil,List.append_nil,List.mem_append] at hb
   have hlb : b < w.heap.size := by
    rcases hb with hb | hb
    · have := lt0 b hb;omega
    · exact ho.lt b hb
   refine ⟨?_,fun hk => ?_⟩
   · rcases hb with hb | hb
     · exact (hlo b hb).1
     · have := hf b hb;omega
   · simp [Value.ownBlock] at hk;subst hk
     rcases hw with hw | hw
     · rcases hb with hb | hb
       · exact (hlo _ hb).2 hw
       · have := hv _ hw;have := hf _ hb;omega
     · omega
theorem takeP_any (b3 m kv a : Nat) (pv : Option Addr) (us : List Value) (xs : List Nat) (w : World) (hb : HB w b3 #[.slice pv m kv] 25) (ha : a ≤ m) (hk : m ≤ kv) (hm : m ≤ 1073741824) (hx : xs.length = m) (hc : Cs w pv us) (hf : F32s us xs) :
 Calls Try.prog 103 #[.int .i64 (a : Int),.pointer (some ⟨b3,0,none⟩)] w fun e w' => ∃ q k,e = .returned (.slice q a k) ∧ ∃ bs w2,Own w2 (.sl .flt) [.slice q a k] (xs.take a) bs ∧ bs.Nodup ∧ (∀ b ∈ bs,w.heap.size ≤ b) ∧ Tys w2 [33] bs ∧ Ext w w2 ∧ HB w' b3 #[.slice (subp pv 1 a kv) (m - a) (kv - a)] 25 ∧ Chg (fun b => b = b3) w2 w' := by
 have hsub := hc.sub (s := 1) (l := 0) (hi := a) (c := kv) (Nat.zero_le _) (by omega);have hfs := hf.part 0 a;simp only [Nat.mul_one] at hsub;have C := hid (fun W (h : Ext w W) => jct (subp pv 1 0 kv) (a - 0) (kv - 0) _ ((xs.take a).drop 0) W (by rw [List.length_drop,List.length_take];omega) (by omega) (by omega) (hsub.ext h) hfs);have HD := hid (show ((xs.take a).drop 0) = xs.take a by simp);have hl : Hid ((xs.take a).length = a) := hid (by rw [List.length_take];omega);have y0 := hb.cell 0 rfl;clear hc hf hsub hfs;go_enter Try.func103,Try.ntmps103;go_wp2_with (first | ((with_reducible show wpList _ _ _ (Oper.mk _ (Op.slice _ _ _ _ _) _ _ _ _ :: _) _ _);refine wl_sliceTo (u := a) rfl rfl rfl rfl rfl (by omega) ?_) | fail);refine (C.out w (Ext.refl _)).mono ?_;intro e w2 h2;rw [HD.out] at h2;obtain ⟨q,k,bs,rfl,o2,nd2,lo2,e2,t2⟩ := retFl_thing3 hl.out h2;have b2 := hb.ext e2;have y2 := b2.cell 0 rfl;have O2 := hid o2;have N2 := hid nd2;have L2 := hid lo2;have T2 := hid t2;clear h2 o2 nd2 lo2 t2 y0 C;go_wp2_with (first | ((with_reducible show wpList _ _ _ (Oper.mk _ (Op.slice _ _ _ _ _) _ _ _ _ :: _) _ _);refine wl_sliceFrom (l := a) rfl rfl rfl rfl rfl (by omega) (by omega) ?_) | ((with_reducible show gx9);refine jcc (j := 0) rfl rfl b2 rfl rfl rfl rfl ?_;intro w3 b3' ch3) | fail);go_ret;exact ⟨q,k,rfl,bs,w2,O2.out,N2.out,L2.out,T2.out,e2,b3',ch3⟩
theorem withParams_any (p pl : Option Addr) (n c nl cl : Nat) (css : List (List Value)) (L : List jab.T) (us : List Value) (xs : List Nat) (w : World) (hL : Lays w p n css L) (hS : Small L)
 (hx : xs.length = nl) (hxl : nl = (parF L).length) (hcl : nl ≤ cl) (hp0 : Cs w pl us) (hf : F32s us xs) :
 Calls Try.prog 62 #[.agg #[.slice p n c],.slice pl nl cl] w fun e w' => ∃ q k,e = .returned (.agg #[.slice q n k]) ∧ jca [41,33] w.heap.size (.sl jab) w' [.slice q n k] (wthF L xs n) ∧ Ext w w' := by
 have hn : n ≤ 12 := by have := hS.1;rw [hL.len] at this;exact this
 have ho := small_off hS;rw [← hxl] at ho;have HO := hid (fun i => off_le L i);rw [← hxl] at HO;have HS := hid hS.2;have HL := hid hL.len;have HX := hid hx;have l1 := hL.cs;have l2 := hL.all;have l3 := hL.size;have l5 := hid hL.cnt;obtain ⟨W0,hW0⟩ : ∃ W0,W0 = (((w.alloc (.cells #[.slice p n c] 38)).alloc (.cells #[.slice pl nl cl] 25)).alloc (.cells #[.slice none 0 0] 38)).alloc (.cells #[.slice none 0 0] 38) := ⟨_,rfl⟩;obtain ⟨E0,s0,b0,b1,b2,b3⟩ := box4 hW0;have b0 : HB W0 w.heap.size #[.slice p n c] 38 := b0;have b1 : HB W0 (w.heap.size + 1) #[.slice pl nl cl] 25 := b1;have b2 : HB W0 (w.heap.size + 1 + 1) #[.slice none 0 0] 38 := b2;have b3 : HB W0 (w.heap.size + 1 + 1 + 1) #[.slice none 0 0] 38 := b3;have hE0s := E0.size;clear hL hS hxl hx;go_enter Try.func62,Try.ntmps62;go_wp2_with fail;rw [← hW0];have hst : W0.ownsRow W0.heap.size 41 jab.sz (.slice none 0 0) 0 [] := ⟨rfl,.inl ⟨rfl,rfl⟩⟩;have hB3 := b3.lt;clear hW0 b0;obtain ⟨N0,hN0⟩ : ∃ N0,N0 = W0.heap.size := ⟨_,rfl⟩;rw [← hN0] at hst hB3 hE0s s0;have HN0 := hid hN0;have HS0 := hid s0;clear s0;go_loopw [14] (fun iv wr => ∃ (i k kv : Nat) (q pv : Option Addr) (cs : List (List Value)) (bss : List (List Nat)),i ≤ n ∧ iv = .int .i64 i ∧ HB wr (w.heap.size + 1) #[.slice pv (nl - off L i) kv] 25 ∧ Hid (Cs w pv (us.drop (off L i))) ∧ nl - off L i ≤ kv ∧ HB wr (w.heap.size + 1 + 1 + 1) #[.slice q i k] 38 ∧ HB wr (w.heap.size + 1 + 1) #[.slice none 0 0] 38 ∧ Hid (jaj wr N0 41 jab (.slice q i k) (wthF L xs i) cs bss) ∧ Hid (Tys wr [33] bss.flatten) ∧ Ext w wr ∧ N0 ≤ wr.heap.size) (fun iv _ => n - (intOf iv).toNat)
 case atStart => exact ⟨0,0,cl,none,pl,[],[],by omega,rfl,b1,hid hp0,hcl,b3,b2,hid (jaj.empty hst),hid (fun b hb => by simp at hb),E0,by omega⟩
 case round =>
  clear b3 b1 b2 hst E0 hE0s hN0;obtain ⟨i,k,kv,q,pv,cs,bss,hi,rfl,B1,HP,hkv,B3,B2,HG,HT,he,hsz⟩ := hrel
  by_cases hlt : i < n
  · have hil : i < L.length := by rw [HL.out];exact hlt
    obtain ⟨ci,hci,ri⟩ := l2.get i L[i] (by simp);have hs1 : p.isSome = true := l1.some_of l3 (by decide) (show 0 < css.length by rw [l5.out];omega);have hp := l1.ext he;have one := ri.one;obtain ⟨hw1,hw2⟩ := HS.out L[i] (by simp);obtain ⟨pw,cw,pb,cb,uw,ub,rfl,_,_⟩ := lay_full ri;have hgt : L[i]? = some L[i] := by simp
    have HD := hid (wthF_succ (xs := xs) hgt);have HE := hid (off_succ hgt);have hlen := wthF_len (L := L) (xs := xs) (i := i) (by omega);have HLn := hid hlen;have hoff := HO.out (i + 1);rw [HE.out] at hoff;generalize off L i = o at *;have hwl : wLay L[i] xs o = (L[i].1,L[i].2.1,L[i].2.2.1,(xs.take (o + (L[i].2.2.2.1 : List Nat).length)).drop o,(xs.take (o + (L[i].2.2.2.1 : List Nat).length + (L[i].2.2.2.2.1 : List Nat).length)).drop (o + (L[i].2.2.2.1 : List Nat).length),()) := rfl;rw [hwl] at HD;generalize L[i] = d at *;obtain ⟨d1,d2,d3,ws,bs,du⟩ := d;dsimp only at hci one HD hw1 hw2 HE hoff;generalize hlw0 : ws.length = lw at *;generalize hlb0 : bs.length = lb at *;obtain ⟨m,hm⟩ : ∃ m,m = nl - o := ⟨_,rfl⟩;rw [← hm] at B1 hkv;have hxl : (xs.drop o).length = m := by rw [List.length_drop,HX.out,hm]
    have hfd : F32s (us.drop o) (xs.drop o) := by
     have h := hf.part o nl;rw [List.take_of_length_le (by rw [hf.1,HX.out];exact Nat.le_refl _),List.take_of_length_le (by rw [HX.out];exact Nat.le_refl _)] at h;exact h
    have hp1 : (xs.drop o).take lw = (xs.take (o + lw)).drop o := drop_take_part xs o lw;have hp2 : ((xs.drop o).drop lw).take lb = (xs.take (o + lw + lb)).drop (o + lw) := by rw [List.drop_drop];exact drop_take_part xs (o + lw) lb
    have C1 := hid (fun W (hb : HB W (w.heap.size + 1) #[.slice pv m kv] 25) (h : Ext w W) => takeP_any (w.heap.size + 1) m kv lw pv (us.drop o) (xs.drop o) W hb (by omega) hkv (by omega) hxl (HP.out.ext h) hfd);have hul : (us.drop o).length = m := by rw [hfd.1,hxl]
    have HP2 : Hid (Cs w (subp pv 1 lw kv) ((us.drop o).drop lw)) := hid (by
     have h := HP.out.sub (s := 1) (l := lw) (hi := m) (c := kv) (by omega) (by omega);simp only [Nat.mul_one] at h;rw [List.take_of_length_le (by omega)] at h;exact h)
    have hfd2 : F32s ((us.drop o).drop lw) ((xs.drop o).drop lw) := by
     have h := hfd.part lw m;rw [List.take_of_length_le (by omega),List.take_of_length_le (by omega)] at h;exact h
    have HP3 : Hid (Cs w (subp (subp pv 1 lw kv) 1 lb (kv - lw)) (((us.drop o).drop lw).drop lb)) := hid (by
     have h := HP2.out.sub (s := 1) (l := lb) (hi := m - lw) (c := kv - lw) (by omega) (by omega);simp only [Nat.mul_one] at h;rw [List.take_of_length_le (by rw [List.length_drop];omega)] at h;exact h)
    have C2 := hid (fun W (hb : HB W (w.heap.size + 1) #[.slice (subp pv 1 lw kv) (m - lw) (kv - lw)] 25) (h : Ext w W) => takeP_any (w.heap.size + 1) (m - lw) (kv - lw) lb (subp pv 1 lw kv) ((us.drop o).drop lw) ((xs.drop o).drop lw) W hb (by omega) (by omega) (by omega) (by rw [List.length_drop];omega) (HP2.out.ext h) hfd2);rw [hp1] at C1;rw [hp2] at C2;generalize (xs.take (o + lw)).drop o = ys at *;generalize (xs.take (o + lw + lb)).drop (o + lw) = zs at *;have HM := hid (show m - lw - lb = nl - off L (i + 1) by rw [HE.out,hm];omega);have HU := hid (show ((us.drop o).drop lw).drop lb = us.drop (off L (i + 1)) by rw [List.drop_drop,List.drop_drop,HE.out]);have hkv2 : nl - off L (i + 1) ≤ kv - lw - lb := by rw [← HM.out];omega
    have b5 := HB.new wr #[.int .i64 d1,.int .i64 d2,.int .i64 d3,.slice pw lw cw,.slice pb lb cb] 41;obtain ⟨W1,hW1⟩ : ∃ W1,W1 = wr.alloc (.cells #[.int .i64 d1,.int .i64 d2,.int .i64 d3,.slice pw lw cw,.slice pb lb cb] 41) := ⟨_,rfl⟩;have E1 : Ext wr W1 := by rw [hW1];exact Ext.alloc _ _
    rw [← hW1] at b5;have hB1l := B1.lt;have hB3l := B3.lt;have hb5l := b5.lt;have hE1z := E1.size;have hS0 := HS0.out;have hN0' : N0 = w.heap.size + 4 := by omega
    clear hm hxl hwl ri hlen hlw0 hlb0 hp1 hp2 hfd hfd2 hul hS0;go_wp2_with (first | ((with_reducible show gx2);refine jau (s := jab) (j := i) rfl rfl rfl rfl (fun _ => rfl) rfl rfl rfl hp l3 l5.out hlt hs1 hci ?_;simp only [ofCs,Sh.agg,if_true]) | fail);rw [← hW1];clear hW1;refine (C1.out _ (B1.ext E1) (he.trans E1)).mono ?_;rintro e w3 ⟨q3,kA,rfl,bw,w2,ow,ndw,low,tw,e2,B13,ch2⟩
    have hz2 := e2.size;have hz3 := ch2.size;have c3 : Chg (fun b => b = w.heap.size + 1 ∨ b = wr.heap.size) wr w3 := (Chg.of_ext (E1.trans e2)).trans (ch2.mono (fun b hb => .inl hb));have E3 : Ext w w3 := ((he.trans E1).trans e2).chg ch2 (fun b hb => by have hb : b = _ := hb;omega);have hlw2 := ow.lt;have ow3 := ow.chg ch2 (fun b hb h => by have h : b = _ := h;have := low b hb;omega);have tw3 := tw.chg ch2 (fun b hb h => by have h : b = _ := h;have := low b hb;omega);have b6 := (b5.ext e2).chg ch2 (fun h => by have h : wr.heap.size = _ := h;omega);have m3 : w3.cell? ⟨wr.heap.size,3,none⟩ = some (.slice pw lw cw) := b6.cell 3 rfl;clear b5 ow tw;go_wp2_with (first | ((with_reducible show gx9);refine jcc (j := 3) rfl rfl b6 rfl rfl rfl rfl ?_;intro w4 b7 ch3;have m4 : w4.cell? ⟨wr.heap.size,4,none⟩ = some (.slice pb lb cb) := b7.cell 4 rfl) | fail);have hz4 := ch3.size;have c4 := c3.trans (ch3.mono (fun b hb => .inr hb));have E4 : Ext w w4 := E3.chg ch3 (fun b hb => by have hb : b = _ := hb;omega);have B14 := B13.chg ch3 (fun h => by have h : w.heap.size + 1 = _ := h;omega);refine (C2.out _ B14 E4).mono ?_;rintro e w6 ⟨q6,k6,rfl,bb,w5,ob,ndb,lob,tb,e5,B16,ch5⟩
    have hz5 := e5.size;have hz6 := ch5.size;have c6 := c4.trans ((Chg.of_ext e5).trans (ch5.mono (fun b hb => .inl hb)));have E6 : Ext w w6 := (E4.trans e5).chg ch5 (fun b hb => by have hb : b = _ := hb;omega);have b8 := (b7.ext e5).chg ch5 (fun h => by have h : wr.heap.size = _ := h;omega);have ow6 := ((ow3.chg ch3 (fun b hb h => by have h : b = _ := h;have := low b hb;omega)).ext e5).chg ch5 (fun b hb h => by have h : b = _ := h;have := low b hb;omega);have tw6 := ((tw3.chg ch3 (fun b hb h => by have h : b = _ := h;have := low b hb;omega)).ext e5).chg ch5 (fun b hb h => by have h : b = _ := h;have := low b hb;omega);have ob6 := ob.chg ch5 (fun b hb h => by have h : b = _ := h;have := lob b hb;omega);have tb6 := tb.chg ch5 (fun b hb h => by have h : b = _ := h;have := lob b hb;omega);have hlwA := ow6.lt;have hlwT : ∀ x ∈ bw,x < w4.heap.size := fun x hx => by have h := hlw2 x hx;omega
    clear b7 b6 ow3 tw3 ob tb B14 B13;have hrow := HG.out.row;rw [HLn.out] at hrow;go_wp2_with (first | ((with_reducible show gx9);refine jcc (j := 4) rfl rfl b8 rfl rfl rfl rfl ?_;intro w7 b9 ch7;have hz7 := ch7.size;have c7 : Chg (fun b => b = w.heap.size + 1) wr w7 := (c6.trans (ch7.mono (fun b hb => .inr hb))).cut (fun b hb => by rcases hb with hb | hb;exact .inl hb;exact .inr (by omega));have B37 := B3.chg c7 (fun h => by have h : _ = w.heap.size + 1 := h;omega);have hrow7 := jag hrow c7 (fun b hb => by have hb : b = _ := hb;omega);have k0 : w7.cell? ⟨wr.heap.size,0,none⟩ = some (.int .i64 d1) := b9.cell 0 rfl;have k1 : w7.cell? ⟨wr.heap.size,1,none⟩ = some (.int .i64 d2) := b9.cell 1 rfl;have k2 : w7.cell? ⟨wr.heap.size,2,none⟩ = some (.int .i64 d3) := b9.cell 2 rfl;have k3 : w7.cell? ⟨wr.heap.size,3,none⟩ = some (.slice q3 lw kA) := b9.cell 3 rfl;have k4 : w7.cell? ⟨wr.heap.size,4,none⟩ = some (.slice q6 lb k6) := b9.cell 4 rfl;have g5 := B37.cell 0 rfl) | ((with_reducible show gx6);refine jbj (u := .agg #[.int .i64 d1,.int .i64 d2,.int .i64 d3,.slice q3 lw kA,.slice q6 lb k6]) rfl rfl rfl rfl rfl (by rfl) (by rfl) (fun _ => rfl) (fun _ => rfl) hrow7 (by unfold maxLen;omega) (by omega) (by omega) ?_;intro g9 c9 w9 own9 gr9 hw9;have hg9 : HB w9 (w.heap.size + 1 + 1 + 1) #[.slice q i k] 38 := B37.chg (.of_grown gr9) (fun h => by have := jap hrow7 _ h.symm;omega)) | ((with_reducible show gx9);refine jcc (j := 0) rfl rfl hg9 rfl rfl rfl rfl ?_;intro w10 b10 ch10) | fail);go_roundw
    case rel =>
     have hz10 := ch10.size;have hz9 := gr9.size;have hlo2 := HG.out.lo;have ow7 := ow6.chg ch7 (fun b hb h => by have h : b = _ := h;have := low b hb;omega);have tw7 := tw6.chg ch7 (fun b hb h => by have h : b = _ := h;have := low b hb;omega);have ob7 := ob6.chg ch7 (fun b hb h => by have h : b = _ := h;have := lob b hb;omega);have tb7 := tb6.chg ch7 (fun b hb h => by have h : b = _ := h;have := lob b hb;omega)
     have T9 : Tys w10 [33] (bss ++ [bw ++ bb]).flatten := by
      have hh : (bss ++ [bw ++ bb]).flatten = bss.flatten ++ (bw ++ bb) := by simp
      rw [hh];refine ((((HT.out.chg c7 (fun b hb h => by have h : b = _ := h;have := (hlo2 b hb).1;omega)).app (tw7.app tb7)).chg (.of_grown gr9) (fun b hb h => ?_)).chg ch10 (fun b hb h => ?_))
      · rcases List.mem_append.1 hb with hb | hb
        · exact (hlo2 b hb).2 h.symm
        · have hlt2 := jcw hrow b h.symm
          rcases List.mem_append.1 hb with hb | hb
          · have := low b hb;omega
          · have := lob b hb;omega
      · have h : b = _ := h
        rcases List.mem_append.1 hb with hb | hb
        · have := (hlo2 b hb).1;omega
        · rcases List.mem_append.1 hb with hb | hb
          · have := low b hb;omega
          · have := lob b hb;omega
     have H9 := HG.out.snocW c7 (fun b hb => by have hb : b = _ := hb;omega) (own_lay (d := (d1,d2,d3,ys,zs,())) ow7 ob7) (nodup_app ndw ndb (fun x hx => by have := hlwT x hx;omega) (fun x hx => lob x hx)) (fun b hb => by
      rcases List.mem_append.1 hb with h | h
      · have := low b h;omega
      · have := lob b h;omega) hsz (n := i) HLn.out own9 gr9 (by rcases hw9 with h | h;exact .inl h;exact .inr (by omega))
     rw [← HD.out] at H9;have B17 := ((B16.chg ch7 (fun h => by have h : w.heap.size + 1 = _ := h;omega)).chg (.of_grown gr9) (fun h => by have := jap hrow7 _ h.symm;omega)).chg ch10 (fun h => by have h : w.heap.size + 1 = _ := h;omega);rw [HM.out] at B17;have B27 := ((B2.chg c7 (fun h => by have h : _ = w.heap.size + 1 := h;omega)).chg (.of_grown gr9) (fun h => by have := jap hrow7 _ h.symm;omega)).chg ch10 (fun h => by have h : w.heap.size + 1 + 1 = _ := h;omega);have HP4 := HP3.out;rw [HU.out] at HP4;exact ⟨i + 1,c9,_,some ⟨g9,0,none⟩,_,_,_,by omega,by go_num,B17,hid HP4,hkv2,b10,B27,hid (H9.chgB ch10 (fun b hb => by have hb : b = _ := hb;omega)),hid T9,((E6.chg ch7 (fun b hb => by have hb : b = _ := hb;omega)).grown gr9 (fun kk hk => by have := jap hrow7 kk hk;omega)).chg ch10 (fun b hb => by have hb : b = _ := hb;omega),by omega⟩
    case measure => simp [intOf];omega
  · obtain rfl : i = n := by omega
    have HG3 := hid (HG.out.ownY (ts := [41,33]) (HT.out.mono (by simp)) (by simp));have g2 : wr.cell? ⟨w.heap.size + 1 + 1 + 1,0,none⟩ = some (.slice q i k) := B3.cell 0 rfl;have g1 : wr.cell? ⟨w.heap.size + 1 + 1,0,none⟩ = some (.slice none 0 0) := B2.cell 0 rfl;have g3 := B2.froz 0;have hS0 := HS0.out;clear HG;go_wp2;refine bodyPost_ret (v := .agg #[.slice q i k]) (by simp [results,Try.results62,go_sem,g1,g3]) rfl ?_;have ch := ja3 wr (w.heap.size + 1 + 1) 0 (.slice q i k);exact ⟨q,k,rfl,(jca.chg HG3.out ch (fun b hb => by omega)).base (by omega),he.chg ch (fun b hb => by omega)⟩
end Go.Proofs.Ytmbckkcgiafagaa
