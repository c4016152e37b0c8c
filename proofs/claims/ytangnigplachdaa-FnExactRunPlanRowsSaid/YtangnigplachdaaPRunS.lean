/- Plans: what their steps make of a row, the reference's part; which rows they take. -/
import Derived.Test.YtangnigplachdaaPDen
import Derived.Test.YtangnigplachdaaKf
namespace Go.Proofs.Ytangnigplachdaa
set_option linter.unusedSimpArgs false
set_option linter.unusedVariables false
open Go.RowKit

section
variable {P : Program} {w : World} {ops : Array Oper} {rest : List Oper} {o1 o2 o3 : Oper} {a : Act} {Q : Exit → Act → World → Prop}
/-- 'xs[i].f' is read, under a condition that holds. -/
theorem wl_ldFieldW {t e b : Nat} {z : Value} {s : Nat} {tf : TypeId} [SlTy P t e s z b] [Cell1 P tf] {x ix : Operand} {d d' : Tmp} {f off : Nat} (hw1 : Region.wanted o1 (yielded ops a.tmps) = true) (ho1 : o1.op = .indexAddr t x ix) (hw2 : ∀ y, Region.wanted o2 (yielded ops (a.put o1.dst y).tmps) = true) (ho2 : o2.op = .fieldAddr e (.tmp d) f)
    (hw3 : ∀ y u, Region.wanted o3 (yielded ops ((a.put o1.dst y).put o2.dst u).tmps) = true) (ho3 : o3.op = .load tf (.tmp d'))
    {p : Option Addr} {n c : Nat} {k : IntKind} {i : Int} {j : Nat} (hd : ∀ y, (a.put o1.dst y).eval (.tmp d) = y) (hd' : ∀ y u, ((a.put o1.dst y).put o2.dst u).eval (.tmp d') = u)
    (hfo : ∀ (q : Addr) (w : World), (Instr.fieldAt e (.pointer (some q)) f).run P w = .ok (.pointer (some (q.add off))) w)
    (hx : a.eval x = .slice p n c) (hi : a.eval ix = .int k i) (hij : i = j) {css : List (List Value)} (hc : Cs w p css.flatten) (hall : ∀ c ∈ css, c.length = s) (hvn : css.length = n) (hn : j < n) (hp : p.isSome = true) {cs : List Value} (hcs : css[j]? = some cs) {u : Value} (hu : cs[off]? = some u)
    (h : wpList P ops Q rest (((a.put o1.dst (.pointer (some (adr p (j * s))))).put o2.dst (.pointer (some (adr p (j * s + off))))).put o3.dst u) w) : wpList P ops Q (o1 :: o2 :: o3 :: rest) a w := by
  subst hij
  refine wl_valueW hw1 (w' := w) (v := .pointer (some (adr p (j * s)))) (by simp [execOp, ho1, hx, hi, run_indexAt hp (show (0 : Int) ≤ (j : Int) by omega) (show (j : Int) < n by omega)]) ?_
  have hj : j < css.length := by omega
  obtain ⟨_, rfl⟩ := List.getElem?_eq_some_iff.1 hcs
  have hadd : (adr p (j * s)).add off = adr p (j * s + off) := by unfold adr; rw [add_add]
  refine wl_valueW (hw2 _) (w' := w) (v := .pointer (some (adr p (j * s + off)))) (by simp [execOp, ho2, hd, hfo, hadd]) ?_
  have hoff : off < s := by have := (List.getElem?_eq_some_iff.1 hu).1; rwa [hall _ (List.getElem_mem hj)] at this
  have hcell : w.cell? (adr p (j * s + off)) = some u := hc.cell _ _ (by rw [flat_get hall hj hoff]; exact hu)
  exact wl_valueW (hw3 _ _) (by simp [execOp, ho3, hd', run_load1 hcell]) h
end
theorem stp_dense {d : shPlanStep.T} (h : stpD d = true) (hd : d.1 = 0) : (d.2.2.2.1 : List Nat).length = d.2.1.toNat * d.2.2.1.toNat ∧ (d.2.2.2.2.1 : List Nat).length = d.2.2.1.toNat ∧ ((d.2.2.2.2.2.1 : List Nat).length = 0 ∨ (d.2.2.2.2.2.1 : List Nat).length = d.2.2.1.toNat ∧ d.2.2.2.2.2.2.1 = false) := by
  obtain ⟨h1, _, h3⟩ := stp_of h
  obtain ⟨a1, a2, _⟩ := stp_in h
  have hk : layB d.1 d.2.1.toNat d.2.2.1.toNat (d.2.2.2.1 : List Nat).length (d.2.2.2.2.1 : List Nat).length = true := by rw [a1, a2]; exact h1
  obtain ⟨_, _, _, _, _, _, b6, _⟩ := lay_of hk
  obtain ⟨b1, b2⟩ := b6 hd
  refine ⟨b1, b2, ?_⟩
  rcases h3 hd with h | ⟨h, h'⟩
  · exact .inl h
  · exact .inr ⟨by omega, h'⟩
theorem stepF_den {d : shPlanStep.T} (hd : d.1 = 0) (h : stpD d = true) (xs : List Nat) : stepF d xs = tab d.2.2.1.toNat (denO d.2.1.toNat d.2.2.2.1 d.2.2.2.2.1 d.2.2.2.2.2.1 xs d.2.2.2.2.2.2.1) := stepF_dense hd h xs
set_option maxRecDepth 100000 in
set_option maxHeartbeats 4000000 in
theorem l09Run_any {sp : Option Nat} (bl o' : Nat) (p q0 : Option Addr) (n c m0 c0 : Nat) (css : List (List Value)) (l : List shPlanStep.T) (x : List Nat) (w : World) (L : Stps w p n css l) (hM : PlaOk l) (f0 : w.cell? ⟨bl, o', sp⟩ = some (.slice p n c)) (hX : Rep w (.sl .flt) [.slice q0 m0 c0] x) (hx : tkB l x.length = true) :
    Calls Try.prog 108 #[.pointer (some ⟨bl, o', sp⟩), .slice q0 m0 c0] w (RetFl w (curP l x n)) := by
  have hn : n ≤ 6 := by have := hM.few; rw [L.len] at this; exact this
  have HL := hid L.len
  have Hstp := hid hM.stp
  have Hlen := hid (curP_len hM hx)
  have Hle := hid (curP_le hM hx)
  have Hs := hid (fun i => @curP_succ l x i)
  have hx8 : x.length ≤ 8 := by have := Hle.out 0 (by omega); rwa [curP_zero] at this
  have l1 := L.cs; have l2 := L.all; have l3 := L.size; have l5 := hid L.cnt
  obtain ⟨us, x1, x2, x3, x4⟩ := rep_flt1 hX
  subst x1
  have C0 := hid (l02Own_any q0 x.length c0 us x w rfl (by omega) (by omega) x2 x3)
  clear L hM hx hX x2 x3 x4
  go_enter Try.func108, Try.ntmps108
  go_wp2_with fail
  refine C0.out.mono ?_
  intro e w0 h0
  obtain ⟨u0, rfl, e0, q, cq, vs, rfl, o0, fl0⟩ := h0.is
  have I0 := hid (show IsFl w.heap.size (curP l x 0) w0 (.slice q x.length cq) from ⟨q, cq, vs, rfl, o0, fl0⟩)
  clear h0 C0 o0 fl0
  go_wp2_with fail
  go_loopw [1, 5] (fun xv iv wr => ∃ (i : Nat) (q : Option Addr) (mq cq : Nat), i ≤ n ∧ iv = .int .i64 i ∧ xv = .slice q mq cq ∧ Hid (IsFl w.heap.size (curP l x i) wr (.slice q mq cq)) ∧ Ext w wr) (fun _ iv _ => n - (intOf iv).toNat)
  case atStart => exact ⟨0, q, _, cq, by omega, rfl, rfl, I0, e0⟩
  case round =>
    clear I0 e0
    obtain ⟨i, q, mq, cq, hi, rfl, rfl, HX, he⟩ := hrel
    have g0 := he.cell f0
    by_cases hlt : i < n
    · have hil : i < l.length := by rw [HL.out]; exact hlt
      obtain ⟨ci, hci, ri⟩ := l2.get i l[i] (by simp)
      have hs1 := l1.some_of l3 (by decide) (show 0 < css.length by rw [l5.out]; omega)
      have hp := l1.ext he
      have hv := Hstp.out i hil
      have hin := Hlen.out i hil
      have hsucc := Hs.out i hil
      obtain ⟨q', c', vs, hq', ho, hf⟩ := HX.out
      cases hq'
      clear HX
      generalize hd : l[i] = d at *
      clear hd
      obtain ⟨pw, cw, pb, cb, ps, cz, uw, ub, uq, rfl, rl, n1, n2, n3, n4, n5, n6, m1, m2, m3⟩ := stp_nums ri
      have hc0 : ([.int .i64 d.1, .int .i64 d.2.1, .int .i64 d.2.2.1, .slice pw (d.2.2.2.1 : List Nat).length cw, .slice pb (d.2.2.2.2.1 : List Nat).length cb, .slice ps (d.2.2.2.2.2.1 : List Nat).length cz, .bool d.2.2.2.2.2.2.1] : List Value)[0]? = some (.int .i64 d.1) := rfl
      have hcell := fun (W : World) (h : Ext wr W) (j : Nat) (v : Value) hv => fcell (w1 := W) hp l3 l5.out hlt hci j h (v := v) hv
      obtain ⟨a1, a2, a3, a4, a5, a6⟩ := stp_in hv
      by_cases hk : d.1 = 0
      · obtain ⟨b1, b2, b3⟩ := stp_dense hv hk
        have C := hid (fun W (h : Ext wr W) => l09Dense_any (sp := (adr p (i * 7)).spot) (adr p (i * 7)).block (adr p (i * 7)).off d.2.1.toNat d.2.2.1.toNat _ _ _ q pw pb ps cq cw cb cz d.2.2.2.2.2.2.1 vs uw ub uq (curP l x i) d.2.2.2.1 d.2.2.2.2.1 d.2.2.2.2.2.1 W a3 a6 a5 b1 b2 b3 (by omega) rfl rfl rfl ((own_Cs ho).ext h) hf (n1.ext (he.trans h)) n2 (n3.ext (he.trans h)) n4 (n5.ext (he.trans h)) n6
          (by rw [a1]; exact hcell W h 1 _ rfl) (by rw [a2]; exact hcell W h 2 _ rfl) (hcell W h 3 _ rfl) (hcell W h 4 _ rfl) (hcell W h 5 _ rfl) (hcell W h 6 _ rfl))
        rw [← stepF_den hk hv, ← hsucc, show d.2.1.toNat = (curP l x i).length by omega] at C
        have hE := beq_t hk
        have Hci := hid hci
        have Hc0 := hid hc0
        clear hcell hci hc0 ho hf hin hsucc hv rl ri b1 b2 b3 hk
        generalize d.1 = dk at *
        generalize (curP l x i).length = mi at *
        go_wp2_with (first | ((with_reducible show wpList _ _ _ (Oper.mk _ (Op.indexAddr _ _ _) _ _ _ _ :: Oper.mk _ (Op.fieldAddr _ _ _) _ _ _ _ :: _) _ _); refine wl_ldField (f := 0) (off := 0) (j := i) rfl rfl rfl rfl rfl rfl (fun _ => rfl) (fun _ _ => rfl) fo_implPlanStep_0 rfl rfl rfl hp l3 l5.out hlt hs1 Hci.out Hc0.out ?_) | (refine wl_idxE (j := i) rfl rfl rfl rfl rfl hs1 hlt ?_))
        refine (C.out _ (Ext.refl _)).mono ?_
        intro e w6 h6
        obtain ⟨u6, rfl, e6, i6⟩ := h6.is
        obtain ⟨q6, c6, v6, rfl, o6, f6⟩ := i6
        have H6 := hid (show IsFl w.heap.size (curP l x (i + 1)) w6 (.slice q6 (curP l x (i + 1)).length c6) from ⟨q6, c6, v6, rfl, own_base o6 he.size, f6⟩)
        clear o6 f6 h6 C
        go_wp2
        go_roundw
        case rel => exact ⟨i + 1, q6, _, c6, by omega, by go_num, rfl, H6, he.trans e6⟩
        case measure => simp [intOf]; omega
      · obtain ⟨b1, b2⟩ := (stp_of hv).2.1 hk
        have C := hid (fun W (h : Ext wr W) (g : Addr) hg => l03Run_lay g _ (stpL d) q (curP l x i).length cq vs (curP l x i) W (rl.ext (he.trans h)) hg (stp_of hv).1 rfl hin ((own_Cs ho).ext h) hf)
        rw [← stepF_bare b1 b2, ← hsucc] at C
        have K := hid (fun W (h : Ext wr W) => l09Layer_any (sp := (adr p (i * 7)).spot) (adr p (i * 7)).block (adr p (i * 7)).off d.1 d.2.1 d.2.2.1 pw pb _ cw _ cb W (hcell W h 0 _ rfl) (hcell W h 1 _ rfl) (hcell W h 2 _ rfl) (hcell W h 3 _ rfl) (hcell W h 4 _ rfl))
        have hE := beq_f hk
        have Hci := hid hci
        have Hc0 := hid hc0
        have one := rl.one
        clear hcell hci hc0 ho hf hin hsucc hv rl ri b1 b2 hk
        generalize (curP l x i).length = mi at *
        go_wp2_with (first | ((with_reducible show wpList _ _ _ (Oper.mk _ (Op.indexAddr _ _ _) _ _ _ _ :: Oper.mk _ (Op.fieldAddr _ _ _) _ _ _ _ :: _) _ _); refine wl_ldField (f := 0) (off := 0) (j := i) rfl rfl rfl rfl rfl rfl (fun _ => rfl) (fun _ _ => rfl) fo_implPlanStep_0 rfl rfl rfl hp l3 l5.out hlt hs1 Hci.out Hc0.out ?_) | (refine wl_idxE (j := i) rfl rfl rfl rfl rfl hs1 hlt ?_))
        refine (K.out _ (Ext.refl _)).mono ?_
        rintro e w4 ⟨rfl, e4⟩
        go_wp2_with ((with_reducible show wpList _ _ _ (Oper.mk _ (Op.store _ _ _) _ _ _ _ :: _) _ _); refine wl_stA (s := shLayer) (cs := [.int .i64 d.1, .int .i64 d.2.1, .int .i64 d.2.2.1, .slice pw (d.2.2.2.1 : List Nat).length cw, .slice pb (d.2.2.2.2.1 : List Nat).length cb]) rfl rfl rfl rfl (heap_alloc_new _ _) rfl rfl one (by decide) ?_; intro w5 c5 ch5; have E5 : Ext w4 w5 := (Ext.alloc _ _).chg ch5 (fun b hb => by subst hb; exact Nat.le_refl _); clear ch5)
        refine (C.out _ (e4.trans E5) _ (cs_add c5)).mono ?_
        intro e w6 h6
        obtain ⟨u6, rfl, e6, i6⟩ := h6.is
        obtain ⟨q6, c6, v6, rfl, o6, f6⟩ := i6
        have e46 := e4.trans E5
        have H6 := hid (show IsFl w.heap.size (curP l x (i + 1)) w6 (.slice q6 (curP l x (i + 1)).length c6) from ⟨q6, c6, v6, rfl, own_base o6 (he.trans e46).size, f6⟩)
        clear o6 f6 h6 C
        go_wp2
        go_roundw
        case rel => exact ⟨i + 1, q6, _, c6, by omega, by go_num, rfl, H6, (he.trans e46).trans e6⟩
        case measure => simp [intOf]; omega
    · obtain rfl : n = i := by omega
      have H6 := HX
      go_wp2
      go_ret
      exact H6.out.ret rfl he
set_option maxRecDepth 100000 in
set_option maxHeartbeats 1000000 in
theorem l09Fits_any {sp : Option Nat} (bl o' : Nat) (p : Option Addr) (n c : Nat) (m : Int) (css : List (List Value)) (l : List shPlanStep.T) (w : World) (L : Stps w p n css l) (f0 : w.cell? ⟨bl, o', sp⟩ = some (.slice p n c)) :
    Calls Try.prog 107 #[.pointer (some ⟨bl, o', sp⟩), .int .i64 m] w (RetB w (tkB l m)) := by
  have hlen := L.len
  unfold tkB
  rw [hlen]
  by_cases h0 : n = 0
  · rw [if_pos h0]
    subst h0
    clear L hlen
    go_enter Try.func107, Try.ntmps107
    go_wp2
    go_ret
    exact ⟨rfl, Ext.refl _⟩
  · rw [if_neg h0]
    have hE := beq_f (show ¬ (n : Int) = 0 by omega)
    obtain ⟨ci, hci, ri⟩ := L.all.get 0 (l[0]'(by omega)) (by simp)
    have hI : (l[0]'(by omega)).2.1 = inP l := by unfold inP; simp [show 0 < l.length by omega]
    obtain ⟨pw, cw, pb, cb, ps, cz, rfl, _, _, _⟩ := stp_cells ri
    rw [hI] at hci
    have hci := hid hci
    have l1 := L.cs; have l3 := L.size; have l5 := hid L.cnt
    have hs1 := l1.some_of l3 (by decide) (show 0 < css.length by rw [l5.out]; omega)
    generalize inP l = v at *
    clear L ri hI
    go_enter Try.func107, Try.ntmps107
    go_wp2_with ((with_reducible show wpList _ _ _ (Oper.mk _ (Op.indexAddr _ _ _) _ _ _ _ :: Oper.mk _ (Op.fieldAddr _ _ _) _ _ _ _ :: _) _ _); refine wl_ldField (f := 1) (off := 1) (j := 0) rfl rfl rfl rfl rfl rfl (fun _ => rfl) (fun _ _ => rfl) fo_implPlanStep_1 rfl rfl rfl l1 l3 l5.out (by omega) hs1 hci.out rfl ?_)
    go_ret
    exact ⟨ret_bool (a := m == v) (by by_cases h : m = v <;> simp [h]), Ext.refl _⟩
set_option maxRecDepth 100000 in
set_option maxHeartbeats 1000000 in
theorem takes_any (p : Option Addr) (n c : Nat) (m : Int) (css : List (List Value)) (l : List shPlanStep.T) (w : World) (L : Stps w p n css l) :
    Calls Try.prog 110 #[.agg #[.slice p n c], .int .i64 m] w (RetB w (plaB l && tkB l m)) := by
  have hlen := L.len
  have V := hid (fun W (h : Ext w W) => ValidPlan_any p n c l css W L.len L.le (L.cs.ext h) (L.all.imp fun _ _ => Rep.ext h) L.size L.cnt)
  cases hB : plaB l
  · rw [hB] at V
    clear L hlen
    go_enter Try.func110, Try.ntmps110
    go_wp2_with fail
    refine (V.out _ (Ext.alloc _ _)).mono ?_
    rintro e w1 ⟨rfl, e1⟩
    go_wp2
    go_ret
    exact ⟨rfl, (Ext.alloc _ _).trans e1⟩
  · have hM := plaOk hB
    rw [hB] at V
    rw [Bool.true_and]
    by_cases hm : m ≤ 8
    · have hG : decide (m > 8) = false := by simp; omega
      by_cases h0 : n = 0
      · subst h0
        have ht : tkB l m = true := by unfold tkB; rw [if_pos hlen]; simpa using hm
        rw [ht]
        clear L hlen hM hB hm
        go_enter Try.func110, Try.ntmps110
        go_wp2_with fail
        refine (V.out _ (Ext.alloc _ _)).mono ?_
        rintro e w1 ⟨rfl, e1⟩
        have g0 := e1.cellOf (b := w.heap.size) (by simp)
        go_wp2
        go_ret
        exact ⟨rfl, (Ext.alloc _ _).trans e1⟩
      · have ht : tkB l m = decide (m = inP l) := by unfold tkB; rw [if_neg (by omega)]
        rw [ht]
        have hE := beq_f (show ¬ (n : Int) = 0 by omega)
        obtain ⟨ci, hci, ri⟩ := L.all.get 0 (l[0]'(by omega)) (by simp)
        have hI : (l[0]'(by omega)).2.1 = inP l := by unfold inP; simp [show 0 < l.length by omega]
        obtain ⟨pw, cw, pb, cb, ps, cz, rfl, _, _, _⟩ := stp_cells ri
        rw [hI] at hci
        have hci := hid hci
        have l1 := L.cs; have l3 := L.size; have l5 := hid L.cnt
        have hs1 := l1.some_of l3 (by decide) (show 0 < css.length by rw [l5.out]; omega)
        generalize inP l = v at *
        clear L ri hI ht hM hB hm
        go_enter Try.func110, Try.ntmps110
        go_wp2_with fail
        refine (V.out _ (Ext.alloc _ _)).mono ?_
        rintro e w1 ⟨rfl, e1⟩
        have g0 := e1.cellOf (b := w.heap.size) (by simp)
        have l1' := l1.ext ((Ext.alloc w (.cells #[.slice p n c] 75)).trans e1)
        go_wp2_with ((with_reducible show wpList _ _ _ (Oper.mk _ (Op.indexAddr _ _ _) _ _ _ _ :: Oper.mk _ (Op.fieldAddr _ _ _) _ _ _ _ :: _) _ _); refine wl_ldFieldW (f := 1) (off := 1) (j := 0) rfl rfl (fun _ => rfl) rfl (fun _ _ => rfl) rfl (fun _ => rfl) (fun _ _ => rfl) fo_implPlanStep_1 rfl rfl rfl l1' l3 l5.out (by omega) hs1 hci.out rfl ?_)
        go_ret
        exact ⟨ret_bool (a := m == v) (by by_cases h : m = v <;> simp [h]), (Ext.alloc _ _).trans e1⟩
    · have hG : decide (m > 8) = true := by simp; omega
      have ht : tkB l m = false := by
        unfold tkB
        split
        · simpa using hm
        · rename_i h
          have h2 := stp_in (hM.stp 0 (by omega))
          have hI : (l[0]'(by omega)).2.1 = inP l := by unfold inP; simp [show 0 < l.length by omega]
          rw [hI] at h2
          simp
          omega
      rw [ht]
      clear L hlen hM hB hm ht
      go_enter Try.func110, Try.ntmps110
      go_wp2_with fail
      refine (V.out _ (Ext.alloc _ _)).mono ?_
      rintro e w1 ⟨rfl, e1⟩
      go_wp2
      go_ret
      exact ⟨rfl, (Ext.alloc _ _).trans e1⟩
end Go.Proofs.Ytangnigplachdaa
