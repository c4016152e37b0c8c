/- ReduceLists of the program and of the reference. -/
import Derived.Test.YtbdcjhhphkckcaaRedB
import Derived.Test.YtbdcjhhphkckcaaRedC
import Derived.Test.YtbdcjhhphkckcaaVTra
import Derived.Test.YtbdcjhhphkckcaaKb
import Derived.Test.YtbdcjhhphkckcaaKf
namespace Go.Proofs.Ytbdcjhhphkckcaa.lReduceLists
set_option linter.unusedSimpArgs false
set_option linter.unusedVariables false
open Go.RowKit

section
variable {P : Program} {w : World} {ops : Array Oper} {rest : List Oper} {o1 o2 : Oper} {a : Act} {Q : Exit → Act → World → Prop}
theorem wl_idxloadW {t e b : Nat} {z : Value} [SlTy P t e 1 z b] [Cell1 P e] {x ix : Operand} {d : Tmp} (hw1 : Region.wanted o1 (yielded ops a.tmps) = true) (ho1 : o1.op = .indexAddr t x ix) (hw2 : ∀ y, Region.wanted o2 (yielded ops (a.put o1.dst y).tmps) = true) (ho2 : o2.op = .load e (.tmp d))
    {p : Option Addr} {n c : Nat} {k : IntKind} {i : Int} {j : Nat} (hd : ∀ y, (a.put o1.dst y).eval (.tmp d) = y)
    (hx : a.eval x = .slice p n c) (hi : a.eval ix = .int k i) (hij : i = j) {vs : List Value} (hc : Cs w p vs) (hvn : vs.length = n) (hn : j < n) {u : Value} (hu : vs[j]? = some u)
    (h : wpList P ops Q rest ((a.put o1.dst (.pointer (some (adr p j)))).put o2.dst u) w) : wpList P ops Q (o1 :: o2 :: rest) a w := by
  subst hij
  have hp : p.isSome = true := hc.isS (by intro h0; rw [h0] at hu; simp at hu)
  refine wl_valueW hw1 (w' := w) (v := .pointer (some (adr p j))) (by simp [execOp, ho1, hx, hi, run_indexAt (P := P) (t := t) (s := 1) hp (show (0 : Int) ≤ (j : Int) by omega) (show (j : Int) < n by omega)]) ?_
  exact wl_valueW (hw2 _) (by simp [execOp, ho2, hd, run_load1 (hc.cell _ _ hu)]) h
end
def len0 (D : List (List Nat)) : Nat := (D.getD 0 []).length
def evenB (D : List (List Nat)) : Bool := !anyTo (fun i => !decide ((D.getD i []).length = len0 D)) D.length
theorem evenB_L {D : List (List Nat)} (h : evenB D = true) : EvenL D (len0 D) := by
  intro i hi
  refine Classical.byContradiction fun hn => ?_
  unfold evenB at h
  rw [anyTo_true.2 ⟨i, hi, by simp; exact hn⟩] at h
  cases h
def okR (k : Int) (D : List (List Nat)) : Prop := inB k 0 2 = true ∧ 1 ≤ D.length ∧ D.length ≤ 8 ∧ len0 D ≤ 512 ∧ evenB D = true
instance (k : Int) (D : List (List Nat)) : Decidable (okR k D) := by unfold okR; infer_instance
def res (k : Int) (D : List (List Nat)) : List Nat × Bool := if okR k D then (redF k D, true) else ([], false)
theorem res_no {k : Int} {D : List (List Nat)} (h : ¬ okR k D) : res k D = ([], false) := by unfold res; rw [if_neg h]
theorem res_bd (k : Int) (D : List (List Nat)) (_ : tot (.sl (.sl .flt)) D ≤ 1048576) (_ : Fit .int k) (_ : Fit (.sl (.sl .flt)) D) : tot (.sl .flt) (res k D).1 ≤ 1048576 := by
  rw [tot_flts]
  unfold res
  split
  · rename_i h
    rw [show (redF k D).length = len0 D from (evenB_L h.2.2.2.2).red h.2.1 k]
    have := h.2.2.2.1
    omega
  · simp
theorem out_noL {w w' : World} {en : Ending} (h : en = .returned (.tuple #[.slice none 0 0, .bool false])) (hx : Ext w w') : OutOk w (.sl .flt) ([], false) en w' :=
  ⟨[.slice none 0 0], [], h, own_nil, by simp, by simp, hx⟩
theorem own_outF {w w' : World} {q : Option Addr} {c : Nat} {xs : List Nat} {vs : List Value} {e : Ending} {B : Nat} (hB : w.heap.size ≤ B) (h : w'.ownsRow B 22 1 (.slice q xs.length c) xs.length vs) (hf : F32s vs xs) (he : e = .returned (.tuple #[.slice q xs.length c, .bool true])) (hx : Ext w w') : OutOk w (.sl .flt) (xs, true) e w' := by
  have h1 := own_flts.2 ⟨q, c, vs, rfl, ownRow_of h, hf, (own_cap h).1, (own_cap h).2, rfl⟩
  refine ⟨[.slice q xs.length c], _, he, h1, ?_, ?_, hx⟩
  · cases q <;> simp [blocksOf]
  · intro b hb
    cases q with
    | none => simp [blocksOf] at hb
    | some a => simp [blocksOf] at hb; subst hb; exact Nat.le_trans hB (own_le h _ rfl)
theorem reduce_any (k : Int) (p : Option Addr) (n c N : Nat) (us : List Value) (l : List (List Nat)) (w : World) (hk : inB k 0 2 = true) (F0 : Fls w p n us l) (hn1 : 1 ≤ n) (hn : n ≤ 8) (hc : n ≤ c) (hE : EvenL l N) (hN : N ≤ 1048576) :
    Calls Try.prog 103 #[.int .i64 k, .slice p n c] w (RetFl w (redF k l)) := by
  rw [inB_true] at hk
  rcases (show k = 0 ∨ k = 1 ∨ k = 2 by omega) with rfl | rfl | rfl
  · exact reduce_line p n c N us l w F0 hn1 hn hc hE hN
  · exact reduce_tree p n c N us l w F0 hn1 hn hc hE hN
  · exact reduce_ring p n c N us l w F0 hn1 hn hE hN
theorem l10Reduce_any (k : Int) (p : Option Addr) (n c N : Nat) (us : List Value) (l : List (List Nat)) (w : World) (hk : inB k 0 2 = true) (F0 : Fls w p n us l) (hn1 : 1 ≤ n) (hn : n ≤ 8) (hc : n ≤ c) (hE : EvenL l N) (hN : N ≤ 1048576) :
    Calls Try.prog 98 #[.int .i64 k, .slice p n c] w (RetFl w (redF k l)) := by
  rw [inB_true] at hk
  rcases (show k = 0 ∨ k = 1 ∨ k = 2 by omega) with rfl | rfl | rfl
  · exact l10Reduce_ring0 p n c N us l w F0 hn1 hn hE hN
  · exact l10Reduce_tree p n c N us l w F0 hn1 hn hc hE hN
  · exact l10Reduce_ring2 p n c N us l w F0 hn1 hn hE hN
set_option maxRecDepth 100000 in
set_option maxHeartbeats 1000000 in
theorem isReduce_any (k : Int) (w : World) : Calls Try.prog 100 #[.int .i64 k] w fun e w' => e = .returned (.bool (inB k 0 2)) ∧ w = w' := by
  have A := hid (fun W => within_any k 0 2 W)
  generalize inB k 0 2 = b at *
  go_enter Try.func100, Try.ntmps100
  go_wp2_with fail
  refine (A.out _).mono ?_
  rintro e w' ⟨rfl, rfl⟩
  go_wp2
  go_ret
  exact ⟨rfl, rfl⟩
set_option maxRecDepth 100000 in
set_option maxHeartbeats 1000000 in
theorem l10Kind_any (k : Int) (w : World) : Calls Try.prog 97 #[.int .i64 k] w fun e w' => e = .returned (.bool (inB k 0 2)) ∧ w = w' := by
  have A := hid (fun W => l00In_any k 0 2 W)
  generalize inB k 0 2 = b at *
  go_enter Try.func97, Try.ntmps97
  go_wp2_with fail
  refine (A.out _).mono ?_
  rintro e w' ⟨rfl, rfl⟩
  go_wp2
  go_ret
  exact ⟨rfl, rfl⟩
set_option maxRecDepth 100000 in
set_option maxHeartbeats 1000000 in
theorem clos_ok (b : Nat) (p q q0 : Option Addr) (n c m d N c0 : Nat) (us : List Value) (w : World) (g0 : w.cell? ⟨b, 0, none⟩ = some (.slice p n c)) (hp : Cs w p us) (hl : us.length = n) (hn : 1 ≤ n) (h0 : us[0]? = some (.slice q0 N c0)) (hm : m ≤ maxLen) (hN : N ≤ maxLen) :
    Calls Try.prog 102 #[.slice q m d, .pointer (some ⟨b, 0, none⟩)] w (RetB w (!decide (m = N))) := by
  unfold maxLen at hm hN
  have H0 := hid h0
  have HL := hid hl
  clear h0 hl
  by_cases h : m = N
  · have Q := bne_f (show (m : Int) = N by omega)
    rw [decide_eq_true h]
    clear h
    go_enter Try.func102, Try.ntmps102
    go_wp2_with ((with_reducible show wpList _ _ _ (Oper.mk _ (Op.indexAddr _ _ _) _ _ _ _ :: Oper.mk _ (Op.load _ _) _ _ _ _ :: _) _ _); refine wl_idxload rfl rfl rfl rfl (fun _ => rfl) rfl rfl hp HL.out (by omega) (by omega) ?_; intro u hu; replace hu := H0.out.symm.trans hu; cases hu)
    go_ret
    exact ⟨rfl, Ext.refl _⟩
  · have Q := bne_t (show ¬ (m : Int) = N by omega)
    rw [decide_eq_false h]
    clear h
    go_enter Try.func102, Try.ntmps102
    go_wp2_with ((with_reducible show wpList _ _ _ (Oper.mk _ (Op.indexAddr _ _ _) _ _ _ _ :: Oper.mk _ (Op.load _ _) _ _ _ _ :: _) _ _); refine wl_idxload rfl rfl rfl rfl (fun _ => rfl) rfl rfl hp HL.out (by omega) (by omega) ?_; intro u hu; replace hu := H0.out.symm.trans hu; cases hu)
    go_ret
    exact ⟨rfl, Ext.refl _⟩
set_option maxRecDepth 100000 in
set_option maxHeartbeats 4000000 in
theorem impl_ok (a0 : Int) (cs1 : List Value) (D1 : List (List Nat)) (w : World) (h1 : Rep w (.sl (.sl .flt)) cs1 D1) (_ : Fit .int a0) (_ : Fit (.sl (.sl .flt)) D1) : Calls Try.prog 42 #[.int .i64 a0, ofCs (.sl (.sl .flt)) cs1] w (OutOk w (.sl .flt) (res a0 D1)) := by
  obtain ⟨p, c, rfl, _⟩ := rep_val h1
  obtain ⟨p', c', us, he0, F, hnc, hcm, hlm⟩ := fls_of h1
  cases he0
  simp only [ofCs, Sh.agg, if_false, Bool.false_eq_true, List.headD_cons]
  have A := hid (fun W => isReduce_any a0 W)
  have E0 := Ext.alloc w (.cells #[.slice p D1.length c] 33)
  have hnm : D1.length ≤ maxLen := Nat.le_trans hnc hcm
  have HLm := hid hlm
  have hcnt := F.cnt
  clear h1
  cases hb0 : inB a0 0 2
  · rw [res_no (fun h => by have := h.1; rw [hb0] at this; cases this)]
    rw [hb0] at A
    clear F hb0 hcnt
    generalize D1.length = n at *
    unfold maxLen at hnm
    go_enter Try.func42, Try.ntmps42
    go_wp2_with fail
    refine (A.out _).mono ?_
    rintro e w1 ⟨rfl, rfl⟩
    go_wp2
    go_ret2
    exact out_noL rfl E0
  rw [hb0] at A
  by_cases hn1 : 1 ≤ D1.length
  rotate_left
  · rw [res_no (fun h => hn1 h.2.1)]
    clear F hb0 hcnt
    generalize D1.length = n at *
    unfold maxLen at hnm
    have hd1 : decide ((n : Int) < 1) = true := by simp; omega
    go_enter Try.func42, Try.ntmps42
    go_wp2_with fail
    refine (A.out _).mono ?_
    rintro e w1 ⟨rfl, rfl⟩
    go_wp2
    go_ret2
    exact out_noL rfl E0
  by_cases hn8 : D1.length ≤ 8
  rotate_left
  · rw [res_no (fun h => hn8 h.2.2.1)]
    clear F hb0 hcnt
    generalize D1.length = n at *
    unfold maxLen at hnm
    have hd1 : decide ((n : Int) < 1) = false := by simp; omega
    have hd2 : decide ((8 : Int) < (n : Int)) = true := by simp; omega
    go_enter Try.func42, Try.ntmps42
    go_wp2_with fail
    refine (A.out _).mono ?_
    rintro e w1 ⟨rfl, rfl⟩
    go_wp2
    go_ret2
    exact out_noL rfl E0
  obtain ⟨q0, c0, vs0, a1, a2, a3, a4⟩ := F.at' 0 (by omega)
  have hl0 := HLm.out 0 (by omega)
  have HA0 := hid a1
  have hp := F.cs
  have hp1 := hp.ext E0
  have Hcnt := hid hcnt
  by_cases h512 : len0 D1 ≤ 512
  rotate_left
  · rw [res_no (fun h => h512 h.2.2.2.1)]
    unfold len0 at h512
    clear F hb0 a1 a3 hcnt hlm
    generalize (D1.getD 0 []).length = N at *
    generalize D1.length = n at *
    unfold maxLen at hnm hl0
    have hd1 : decide ((n : Int) < 1) = false := by simp; omega
    have hd2 : decide ((8 : Int) < (n : Int)) = false := by simp; omega
    have hd3 : decide ((512 : Int) < (N : Int)) = true := by simp; omega
    go_enter Try.func42, Try.ntmps42
    go_wp2_with fail
    refine (A.out _).mono ?_
    rintro e w1 ⟨rfl, rfl⟩
    go_wp2_with ((with_reducible show wpList _ _ _ (Oper.mk _ (Op.indexAddr _ _ _) _ _ _ _ :: Oper.mk _ (Op.load _ _) _ _ _ _ :: _) _ _); refine wl_idxloadW (j := 0) rfl rfl (fun _ => rfl) rfl (fun _ => rfl) rfl rfl rfl hp1 Hcnt.out (by omega) HA0.out ?_)
    go_ret2
    exact out_noL rfl E0
  have hq : ∀ W, Ext (w.alloc (.cells #[.slice p D1.length c] 33)) W → PredOk 102 #[.pointer (some ⟨w.heap.size, 0, none⟩)] us (fun i => !decide ((D1.getD i []).length = len0 D1)) W := by
    intro W hW i u W2 hu h2
    have hi : i < D1.length := by rw [← hcnt]; exact (List.getElem?_eq_some_iff.1 hu).1
    obtain ⟨q, c1, vs, e1, _, _, _⟩ := F.at' i hi
    rw [hu] at e1
    cases e1
    exact clos_ok w.heap.size p q q0 D1.length c _ c1 _ c0 us W2 ((hW.trans h2).cell (by simp)) (hp1.ext (hW.trans h2)) hcnt hn1 HA0.out (HLm.out i hi) hl0
  have C := hid (fun W (h : Ext (w.alloc (.cells #[.slice p D1.length c] 33)) W) => containsFuncSl_any 102 #[.pointer (some ⟨w.heap.size, 0, none⟩)] (by intro args w; kernel_rfl) p D1.length c us (fun i => !decide ((D1.getD i []).length = len0 D1)) W hcnt hnm (hp1.ext h) (hq W h))
  cases hev : evenB D1
  · rw [res_no (fun h => by have := h.2.2.2.2; rw [hev] at this; cases this)]
    unfold evenB at hev
    rw [Bool.not_eq_false'] at hev
    rw [hev] at C
    unfold len0 at h512
    clear F hb0 a1 a3 hcnt hlm hev hq HLm
    generalize (D1.getD 0 []).length = N at *
    generalize D1.length = n at *
    unfold maxLen at hnm hl0
    have hd1 : decide ((n : Int) < 1) = false := by simp; omega
    have hd2 : decide ((8 : Int) < (n : Int)) = false := by simp; omega
    have hd3 : decide ((512 : Int) < (N : Int)) = false := by simp; omega
    go_enter Try.func42, Try.ntmps42
    go_wp2_with fail
    refine (A.out _).mono ?_
    rintro e w1 ⟨rfl, rfl⟩
    go_wp2_with ((with_reducible show wpList _ _ _ (Oper.mk _ (Op.indexAddr _ _ _) _ _ _ _ :: Oper.mk _ (Op.load _ _) _ _ _ _ :: _) _ _); refine wl_idxloadW (j := 0) rfl rfl (fun _ => rfl) rfl (fun _ => rfl) rfl rfl rfl hp1 Hcnt.out (by omega) HA0.out ?_)
    refine (C.out _ (Ext.refl _)).mono ?_
    rintro e w2 ⟨rfl, e2⟩
    go_wp2
    go_ret2
    exact out_noL rfl (E0.trans e2)
  · have hok : okR a0 D1 := ⟨hb0, hn1, hn8, h512, hev⟩
    have hEL := evenB_L hev
    rw [show res a0 D1 = (redF a0 D1, true) from by unfold res; rw [if_pos hok]]
    have R := hid (fun W (h : Ext w W) => reduce_any a0 p D1.length c (len0 D1) us D1 W hb0 (F.ext h) hn1 hn8 hnc hEL (by omega))
    unfold evenB at hev
    rw [Bool.not_eq_true'] at hev
    rw [hev] at C
    unfold len0 at h512
    clear F hb0 a1 a3 hcnt hlm hev hq HLm hok hEL
    generalize redF a0 D1 = red at *
    generalize (D1.getD 0 []).length = N at *
    generalize D1.length = n at *
    unfold maxLen at hnm hl0
    have hd1 : decide ((n : Int) < 1) = false := by simp; omega
    have hd2 : decide ((8 : Int) < (n : Int)) = false := by simp; omega
    have hd3 : decide ((512 : Int) < (N : Int)) = false := by simp; omega
    have x0 : (w.alloc (.cells #[.slice p n c] 33)).cell? ⟨w.heap.size, 0, none⟩ = some (.slice p n c) := by simp
    go_enter Try.func42, Try.ntmps42
    go_wp2_with fail
    refine (A.out _).mono ?_
    rintro e w1 ⟨rfl, rfl⟩
    go_wp2_with ((with_reducible show wpList _ _ _ (Oper.mk _ (Op.indexAddr _ _ _) _ _ _ _ :: Oper.mk _ (Op.load _ _) _ _ _ _ :: _) _ _); refine wl_idxloadW (j := 0) rfl rfl (fun _ => rfl) rfl (fun _ => rfl) rfl rfl rfl hp1 Hcnt.out (by omega) HA0.out ?_)
    refine (C.out _ (Ext.refl _)).mono ?_
    rintro e w2 ⟨rfl, e2⟩
    have x1 := e2.cell x0
    go_wp2_with fail
    refine (R.out _ (E0.trans e2)).mono ?_
    rintro e w3 ⟨q3, c3, vs3, rfl, own3, hf3, e3⟩
    go_wp2
    go_ret2
    exact own_outF (E0.trans e2).size own3 hf3 rfl ((E0.trans e2).trans e3)
theorem even_iff {D : List (List Nat)} : evenB D = true ↔ ∀ i, i < D.length → (D.getD i []).length = len0 D := by
  constructor
  · exact fun h => evenB_L h
  · intro h
    unfold evenB
    rw [anyTo_false (fun i hi => by simp; have := h i hi; simpa using this)]; rfl
set_option maxRecDepth 100000 in
set_option maxHeartbeats 4000000 in
theorem spec_ok (a0 : Int) (cs1 : List Value) (D1 : List (List Nat)) (w : World) (h1 : Rep w (.sl (.sl .flt)) cs1 D1) (_ : Fit .int a0) (_ : Fit (.sl (.sl .flt)) D1) : Calls Try.prog 40 #[.int .i64 a0, ofCs (.sl (.sl .flt)) cs1] w (OutOk w (.sl .flt) (res a0 D1)) := by
  obtain ⟨p, c, rfl, _⟩ := rep_val h1
  obtain ⟨p', c', us, he0, F, hnc, hcm, hlm⟩ := fls_of h1
  cases he0
  simp only [ofCs, Sh.agg, if_false, Bool.false_eq_true, List.headD_cons]
  have A := hid (fun W => l10Kind_any a0 W)
  have hnm : D1.length ≤ maxLen := Nat.le_trans hnc hcm
  have HLm := hid hlm
  have hcnt := F.cnt
  have B := hid (fun W => l00In_any (D1.length : Int) 1 8 W)
  clear h1
  cases hb0 : inB a0 0 2
  · rw [res_no (fun h => by have := h.1; rw [hb0] at this; cases this)]
    rw [hb0] at A
    clear F hb0 hcnt
    generalize D1.length = n at *
    unfold maxLen at hnm
    go_enter Try.func40, Try.ntmps40
    go_wp2_with fail
    refine (A.out _).mono ?_
    rintro e w1 ⟨rfl, rfl⟩
    go_wp2
    go_ret2
    exact out_noL rfl (Ext.refl _)
  rw [hb0] at A
  cases hb1 : inB (D1.length : Int) 1 8
  · rw [res_no (fun h => by have h2 := h.2.1; have h3 := h.2.2.1; rw [show inB (D1.length : Int) 1 8 = true from inB_true.2 (by omega)] at hb1; cases hb1)]
    rw [hb1] at B
    clear F hb0 hcnt hb1
    generalize D1.length = n at *
    unfold maxLen at hnm
    go_enter Try.func40, Try.ntmps40
    go_wp2_with fail
    refine (A.out _).mono ?_
    rintro e w1 ⟨rfl, rfl⟩
    go_wp2_with fail
    refine (B.out _).mono ?_
    rintro e w1 ⟨rfl, rfl⟩
    go_wp2
    go_ret2
    exact out_noL rfl (Ext.refl _)
  rw [hb1] at B
  rw [inB_true] at hb1
  have hn1 : 1 ≤ D1.length := by omega
  have hn8 : D1.length ≤ 8 := by omega
  obtain ⟨q0, c0, vs0, a1, a2, a3, a4⟩ := F.at' 0 (by omega)
  have hl0 := HLm.out 0 (by omega)
  have HA0 := hid a1
  have hp := F.cs
  have Hcnt := hid hcnt
  by_cases h512 : len0 D1 ≤ 512
  rotate_left
  · rw [res_no (fun h => h512 h.2.2.2.1)]
    unfold len0 at h512
    clear F hb0 a1 a3 hcnt hlm hb1
    generalize (D1.getD 0 []).length = N at *
    generalize D1.length = n at *
    unfold maxLen at hnm hl0
    have hd3 : decide ((512 : Int) < (N : Int)) = true := by simp; omega
    go_enter Try.func40, Try.ntmps40
    go_wp2_with fail
    refine (A.out _).mono ?_
    rintro e w1 ⟨rfl, rfl⟩
    go_wp2_with fail
    refine (B.out _).mono ?_
    rintro e w1 ⟨rfl, rfl⟩
    go_wp2_with ((with_reducible show wpList _ _ _ (Oper.mk _ (Op.indexAddr _ _ _) _ _ _ _ :: Oper.mk _ (Op.load _ _) _ _ _ _ :: _) _ _); refine wl_idxloadW (j := 0) rfl rfl (fun _ => rfl) rfl (fun _ => rfl) rfl rfl rfl hp Hcnt.out (by omega) HA0.out ?_)
    go_ret2
    exact out_noL rfl (Ext.refl _)
  have HNo := hid (fun i (hi : i < D1.length) (h : ¬ (D1.getD i []).length = len0 D1) => show res a0 D1 = ([], false) from res_no (fun hh => h (evenB_L hh.2.2.2.2 i hi)))
  have HYes := hid (fun (h : ∀ i, i < D1.length → (D1.getD i []).length = len0 D1) => show res a0 D1 = (redF a0 D1, true) from by unfold res; rw [if_pos ⟨hb0, hn1, hn8, h512, even_iff.2 h⟩])
  have R := hid (fun W (h : Ext w W) (hh : ∀ i, i < D1.length → (D1.getD i []).length = len0 D1) => l10Reduce_any a0 p D1.length c (len0 D1) us D1 W hb0 (F.ext h) hn1 hn8 hnc hh (by omega))
  have HAt := hid F.at'
  generalize res a0 D1 = r at *
  unfold len0 at h512 HNo HYes R
  clear F hb0 a1 a3 hcnt hlm hb1
  generalize hN : (D1.getD 0 []).length = N at *
  have HN := hid hN
  generalize hn : D1.length = n at *
  have Hn := hid hn
  clear hN hn
  generalize redF a0 D1 = red at *
  unfold maxLen at hnm hl0
  have hd3 : decide ((512 : Int) < (N : Int)) = false := by simp; omega
  go_enter Try.func40, Try.ntmps40
  go_wp2_with fail
  refine (A.out _).mono ?_
  rintro e w1 ⟨rfl, rfl⟩
  go_wp2_with fail
  refine (B.out _).mono ?_
  rintro e w1 ⟨rfl, rfl⟩
  go_wp2_with ((with_reducible show wpList _ _ _ (Oper.mk _ (Op.indexAddr _ _ _) _ _ _ _ :: Oper.mk _ (Op.load _ _) _ _ _ _ :: _) _ _); refine wl_idxloadW (j := 0) rfl rfl (fun _ => rfl) rfl (fun _ => rfl) rfl rfl rfl hp Hcnt.out (by omega) HA0.out ?_)
  go_loopw [6] (fun iv wr => ∃ i : Nat, i ≤ n ∧ iv = .int .i64 i ∧ Hid (∀ j, j < i → (D1.getD j []).length = N) ∧ Ext w wr) (fun iv _ => n - (intOf iv).toNat)
  case atStart => exact ⟨0, by omega, rfl, fun j hj => by omega, Ext.refl _⟩
  case round =>
    obtain ⟨i, hi, rfl, HAll, he⟩ := hrel
    by_cases hlt : i < n
    · obtain ⟨qi, ci, vsi, b1, _, _, _⟩ := HAt.out i hlt
      have hli := HLm.out i hlt
      unfold maxLen at hli
      have HNoi := hid (HNo.out i hlt)
      generalize hM : (D1.getD i []).length = M at *
      have HM := hid hM
      have HB1 := hid b1
      have kp := (hp.ext he).ext (Ext.drew wr)
      clear b1 hM
      by_cases heq : M = N
      · have Q := bne_f (show (M : Int) = N by omega)
        have Heq := hid heq
        clear heq
        go_wp2
        refine wp_region_xall (F := fun _ _ _ => False) (by kernel_rfl) (by kernel_rfl) (by kernel_rfl) ?_
        intro wf hwf
        repeat (first
          | (refine x_skip rfl ?_; simp only [Act.put, ev_tmp, List.setIfInBounds_toArray, List.set_cons_succ, List.set_cons_zero, List.getD_cons_succ, List.getD_cons_zero])
          | (refine x_mv rfl rfl rfl ?_; simp only [Act.put, ev_tmp, List.setIfInBounds_toArray, List.set_cons_succ, List.set_cons_zero, List.getD_cons_succ, List.getD_cons_zero])
          | (refine x_as rfl rfl rfl ?_; simp only [Act.put, ev_tmp, List.setIfInBounds_toArray, List.set_cons_succ, List.set_cons_zero, List.getD_cons_succ, List.getD_cons_zero])
          | ((with_reducible show wpX _ _ _ _ _ _ (Oper.mk _ (Op.indexAddr _ _ _) _ _ _ _ :: Oper.mk _ (Op.load _ _) _ _ _ _ :: _) _); refine x_idxload rfl rfl (fun _ => rfl) rfl (fun _ => rfl) rfl rfl kp Hcnt.out (by omega) (by omega) ?_; intro u hu; rw [Int.toNat_natCast] at hu; replace hu := HB1.out.symm.trans hu; cases hu; simp only [Act.put, ev_tmp, List.setIfInBounds_toArray, List.set_cons_succ, List.set_cons_zero, List.getD_cons_succ, List.getD_cons_zero])
          | ((with_reducible show wpX _ _ _ _ _ _ (Oper.mk _ (Op.indexAddr _ _ _) _ _ _ _ :: Oper.mk _ (Op.load _ _) _ _ _ _ :: _) _); refine x_idxload rfl rfl (fun _ => rfl) rfl (fun _ => rfl) rfl rfl kp Hcnt.out (by omega) (by omega) ?_; intro u hu; replace hu := HA0.out.symm.trans hu; cases hu; simp only [Act.put, ev_tmp, List.setIfInBounds_toArray, List.set_cons_succ, List.set_cons_zero, List.getD_cons_succ, List.getD_cons_zero])
          | (refine x_run rfl fun K hK w1 hw1 => ?_; go_simp; refine hK _ ?_; clear hK K  hw1 w1))
        refine x_nil ?_
        go_wp2
        go_roundw
        case rel =>
          refine ⟨i + 1, by omega, by go_num, fun j hj => ?_, (he.trans (Ext.drew wr)).trans hwf⟩
          by_cases hji : j = i
          · subst hji; rw [HM.out, Heq.out]
          · exact HAll.out j (by omega)
        case measure => simp [intOf]; omega
      · have Q := bne_t (show ¬ (M : Int) = N by omega)
        have hno := HNoi.out heq
        subst hno
        clear heq
        go_wp2
        refine wp_region_xall (F := fun _ _ _ => False) (by kernel_rfl) (by kernel_rfl) (by kernel_rfl) ?_
        intro wf hwf
        repeat (first
          | (refine x_skip rfl ?_; simp only [Act.put, ev_tmp, List.setIfInBounds_toArray, List.set_cons_succ, List.set_cons_zero, List.getD_cons_succ, List.getD_cons_zero])
          | (refine x_mv rfl rfl rfl ?_; simp only [Act.put, ev_tmp, List.setIfInBounds_toArray, List.set_cons_succ, List.set_cons_zero, List.getD_cons_succ, List.getD_cons_zero])
          | (refine x_as rfl rfl rfl ?_; simp only [Act.put, ev_tmp, List.setIfInBounds_toArray, List.set_cons_succ, List.set_cons_zero, List.getD_cons_succ, List.getD_cons_zero])
          | ((with_reducible show wpX _ _ _ _ _ _ (Oper.mk _ (Op.indexAddr _ _ _) _ _ _ _ :: Oper.mk _ (Op.load _ _) _ _ _ _ :: _) _); refine x_idxload rfl rfl (fun _ => rfl) rfl (fun _ => rfl) rfl rfl kp Hcnt.out (by omega) (by omega) ?_; intro u hu; rw [Int.toNat_natCast] at hu; replace hu := HB1.out.symm.trans hu; cases hu; simp only [Act.put, ev_tmp, List.setIfInBounds_toArray, List.set_cons_succ, List.set_cons_zero, List.getD_cons_succ, List.getD_cons_zero])
          | ((with_reducible show wpX _ _ _ _ _ _ (Oper.mk _ (Op.indexAddr _ _ _) _ _ _ _ :: Oper.mk _ (Op.load _ _) _ _ _ _ :: _) _); refine x_idxload rfl rfl (fun _ => rfl) rfl (fun _ => rfl) rfl rfl kp Hcnt.out (by omega) (by omega) ?_; intro u hu; replace hu := HA0.out.symm.trans hu; cases hu; simp only [Act.put, ev_tmp, List.setIfInBounds_toArray, List.set_cons_succ, List.set_cons_zero, List.getD_cons_succ, List.getD_cons_zero])
          | (refine x_run rfl fun K hK w1 hw1 => ?_; go_simp; refine hK _ ?_; clear hK K  hw1 w1))
        refine x_nil ?_
        go_wp2
        go_ret2
        exact out_noL rfl ((he.trans (Ext.drew wr)).trans hwf)
    · obtain rfl : i = n := by omega
      have hyes := HYes.out HAll.out
      subst hyes
      have R1 := hid (fun W (h : Ext w W) => R.out W h HAll.out)
      go_wp2_with fail
      refine (R1.out _ he).mono ?_
      rintro e w3 ⟨q3, c3, vs3, rfl, own3, hf3, e3⟩
      go_wp2
      go_ret2
      exact own_outF he.size own3 hf3 rfl (he.trans e3)
end Go.Proofs.Ytbdcjhhphkckcaa.lReduceLists
