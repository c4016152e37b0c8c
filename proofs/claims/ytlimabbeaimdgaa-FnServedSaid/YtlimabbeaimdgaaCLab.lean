/- CountLabels, both parts. -/
import Derived.Test.YtlimabbeaimdgaaConf3
namespace Go.Proofs.Ytlimabbeaimdgaa.lCountLabels
set_option linter.unusedSimpArgs false
set_option linter.unusedVariables false
open Go.RowKit

def res (d : shModel.T) (x : shTensor.T) (l : List Int) : Int × Bool := if okL d x l then (hits l (bestF d.1 x.2.2.1 x.2.1.toNat (outL d.1).toNat) l.length, true) else (0, false)
theorem res_no {d : shModel.T} {x : shTensor.T} {l : List Int} (h : ¬ okL d x l) : res d x l = (0, false) := by unfold res; rw [if_neg h]
def Got (w : World) (r : Int × Bool) (e : Ending) (w' : World) : Prop := e = .returned (.tuple #[.int .i64 r.1, .bool r.2]) ∧ Ext w w'
set_option maxRecDepth 100000 in
set_option maxHeartbeats 4000000 in
theorem impl_ok (cs0 : List Value) (D0 : shModel.T) (cs1 : List Value) (D1 : shTensor.T) (cs2 : List Value) (D2 : List Int) (w : World) (h0 : Rep w shModel cs0 D0) (h1 : Rep w shTensor cs1 D1) (h2 : Rep w (.sl .int) cs2 D2) (f0 : Fit shModel D0) (f1 : Fit shTensor D1) (f2 : Fit (.sl .int) D2) : Calls Try.prog 40 #[ofCs shModel cs0, ofCs shTensor cs1, ofCs (.sl .int) cs2] w (Got w (res D0 D1 D2)) := by
  have K := hid (fun W (h : Ext w W) => lConfusionOf.impl_ok cs0 D0 cs1 D1 cs2 D2 W (h0.ext h) (h1.ext h) (h2.ext h) f0 f1 f2)
  by_cases hok : okL D0 D1 D2
  case neg =>
    rw [res_no hok]
    rw [lConfusionOf.res_no hok] at K
    obtain ⟨L0, u0⟩ := D0
    obtain ⟨c0, c1, rfl, k0, rfl⟩ := h0
    obtain ⟨p, c, rfl, _⟩ := rep_val k0
    obtain ⟨q, cq, us, rfl, _⟩ := ten_vals h1
    obtain ⟨r, k, xs, _⟩ := D1
    obtain ⟨p3, c3, rfl, _⟩ := rep_ints.1 h2
    dsimp only at K ⊢
    simp only [ofCs, Sh.agg, if_true, List.append_nil, List.headD_cons, Bool.false_eq_true, if_false] at K ⊢
    clear h1 h2 k0 f0 f1 f2 hok
    generalize L0.length = n0 at *
    generalize xs.length = n1 at *
    generalize D2.length = n2 at *
    obtain ⟨W0, hW0⟩ : ∃ W0, W0 = (w.alloc (.cells #[.slice p n0 c] 33)).alloc (.cells #[.int .i64 r, .int .i64 k, .slice q n1 cq] 57) := ⟨_, rfl⟩
    obtain ⟨E0, s0, b0, b1⟩ := box2 hW0
    clear b0 b1 s0
    go_enter Try.func40, Try.ntmps40
    go_wp2_with fail
    rw [← hW0]
    clear hW0
    refine (K.out _ E0).mono ?_
    rintro e w1 ⟨cs4, bs4, rfl, own4, _, _, e1⟩
    obtain ⟨p4, c4, rfl, _⟩ := rep_val own4.rep
    simp only [ofCs, Sh.agg, List.headD_cons, Bool.false_eq_true, if_false]
    go_wp2
    go_ret2
    exact ⟨rfl, E0.trans e1⟩
  have hres : res D0 D1 D2 = (hits D2 (bestF D0.1 D1.2.2.1 D1.2.1.toNat (outL D0.1).toNat) (List.length D2), true) := by unfold res; rw [if_pos hok]
  rw [hres]
  have hK : lConfusionOf.res D0 D1 D2 = (tabF (outL D0.1).toNat D2 (bestF D0.1 D1.2.2.1 D1.2.1.toNat (outL D0.1).toNat) (List.length D2), true) := by unfold lConfusionOf.res; rw [if_pos hok]
  rw [hK] at K
  obtain ⟨m, hm, hm1, hm8⟩ := outL_nat (modOk hok.1.1)
  have hlb := hok.2.2
  obtain ⟨R, C, e1, e2, hR, hR1, _, _, hnx⟩ := tenB_of hok.1.2.1
  have hlen : List.length D2 ≤ 16 := by have := hok.2.1; omega
  rw [← hm, Int.toNat_natCast] at K ⊢
  rw [← hm] at hlb
  generalize hg : bestF D0.1 D1.2.2.1 D1.2.1.toNat m = g at *
  have Hd := hid (diag_tab (O := m) (l := D2) (g := g) (List.length D2) (fun i hi => by
    have := lblB_at hlb (i := i) hi
    rw [List.getD_eq_getElem?_getD, List.getElem?_eq_getElem hi, Option.getD_some]; omega) (fun i hi => by rw [← hg]; exact gi_lt _ (by omega)))
  obtain ⟨L0, u0⟩ := D0
  obtain ⟨c0, c1, rfl, k0, rfl⟩ := h0
  obtain ⟨p, c, rfl, _⟩ := rep_val k0
  obtain ⟨q, cq, us, rfl, _⟩ := ten_vals h1
  obtain ⟨r, k, xs, _⟩ := D1
  obtain ⟨p3, c3, rfl, _⟩ := rep_ints.1 h2
  dsimp only at K ⊢
  simp only [ofCs, Sh.agg, if_true, List.append_nil, List.headD_cons, Bool.false_eq_true, if_false] at K ⊢
  clear h1 h2 k0 f0 f1 f2 hok hres hK hlb e1 e2 hg hm hnx
  have Hbd := hid (fun a b => tabF_bd m D2 g (List.length D2) a b)
  have Hdb := hid (fun n => diag_bd (T := tabF m D2 g (List.length D2)) (m := 16) (fun a b => by have := tabF_bd m D2 g (List.length D2) a b; omega) n)
  obtain ⟨ht1, ht2⟩ := tabF_len m D2 g (List.length D2)
  have Ht1 := hid ht1
  have Ht2 := hid ht2
  clear ht1 ht2
  generalize hT : tabF m D2 g (List.length D2) = T at *
  generalize hits D2 g (List.length D2) = H at *
  clear hT
  generalize L0.length = n0 at *
  generalize xs.length = n1 at *
  generalize D2.length = n2 at *
  obtain ⟨W0, hW0⟩ : ∃ W0, W0 = (w.alloc (.cells #[.slice p n0 c] 33)).alloc (.cells #[.int .i64 r, .int .i64 k, .slice q n1 cq] 57) := ⟨_, rfl⟩
  obtain ⟨E0, s0, b0, b1⟩ := box2 hW0
  clear b0 b1 s0
  go_enter Try.func40, Try.ntmps40
  go_wp2_with fail
  rw [← hW0]
  clear hW0
  refine (K.out _ E0).mono ?_
  rintro e w1 ⟨cs4, bs4, rfl, own4, _, _, e1⟩
  dsimp only at own4
  obtain ⟨p4, c4, css, rfl, a2, a3, a4, a5, a6, a7⟩ := rep_sl own4.rep
  simp only [ofCs, Sh.agg, List.headD_cons, Bool.false_eq_true, if_false]
  rw [Ht1.out] at a7 a3 ⊢
  have Hc := hid a7
  clear K own4 a7
  have a6 : ∀ c ∈ css, c.length = 1 := a6
  have hfl : css.flatten.length = m := by rw [flat_len' a6, Hc.out, Nat.mul_one]
  have Hfl := hid hfl
  clear hfl
  go_wp2
  go_loopw [10, 23] (fun nv iv wr => ∃ (i : Nat), i ≤ m ∧ iv = .int .i64 i ∧ nv = .int .i64 (diag T i) ∧ Ext w1 wr) (fun _ iv _ => m - (intOf iv).toNat)
  case atStart => exact ⟨0, by omega, rfl, rfl, Ext.refl _⟩
  case round =>
    obtain ⟨i, hi, rfl, rfl, he⟩ := hrel
    by_cases hlt : i < m
    · obtain ⟨ci, hci, ri⟩ := a5.get i (T[i]'(by rw [Ht1.out]; exact hlt)) (by simp)
      obtain ⟨pi, cpi, rfl, hri, _⟩ := rep_ints.1 ri
      have hx3 : (T[i]'(by rw [Ht1.out]; exact hlt)).length = m := Ht2.out _ (by simp)
      have hx4 : T.getD i [] = T[i]'(by rw [Ht1.out]; exact hlt) := by rw [List.getD_eq_getElem?_getD, List.getElem?_eq_getElem]; rfl
      have hst : diag T (i + 1) = diag T i + (T.getD i []).getD i 0 := rfl
      have hd0 := Hdb.out i
      have hd1 := Hdb.out (i + 1)
      have hga := hid (one_get a6 hci)
      rw [hx4] at hst
      have p1 := a2.ext he
      have p2 := hri.ext he
      generalize (T[i]'(by rw [Ht1.out]; exact hlt)) = x at *
      rw [hx3] at hga
      have Hx3 := hid hx3
      generalize hxv : x.getD i 0 = xv at *
      have Hxv := hid hxv
      have Hst := hid hst
      rw [hst] at hd1
      generalize diag T i = d at *
      have hi8 : (i : Int) * 16 ≤ 128 := by omega
      have qx : IntKind.i64.wrap (d + xv) = d + xv := wrap_in _ (by push_cast at hd1; omega) (by push_cast at hd1; omega)
      clear hx3 hx4 hst hxv hci ri hd1
      go_wp2_with (first | ((with_reducible show wpList _ _ _ (Oper.mk _ (Op.indexAddr _ _ _) _ _ _ _ :: Oper.mk _ (Op.load _ _) _ _ _ _ :: _) _ _); refine wl_idxload rfl rfl rfl rfl (fun _ => rfl) rfl rfl p1 Hfl.out (by omega) (by omega) ?_; intro u hu; rw [Int.toNat_natCast, hga.out] at hu; cases hu) | ((with_reducible show wpList _ _ _ (Oper.mk _ (Op.indexAddr _ _ _) _ _ _ _ :: Oper.mk _ (Op.load _ _) _ _ _ _ :: _) _ _); refine wl_ldI rfl rfl rfl rfl (fun _ => rfl) rfl rfl p2 Hx3.out (by omega) (by omega) ?_; rw [Int.toNat_natCast, Hxv.out]))
      go_roundw
      case rel => exact ⟨i + 1, by omega, by go_num, by rw [Hst.out], he⟩
      case measure => simp [intOf]; omega
    · obtain rfl : i = m := by omega
      go_wp2
      go_ret2
      exact ⟨by rw [← Hd.out]; rfl, (E0.trans e1).trans he⟩
end Go.Proofs.Ytlimabbeaimdgaa.lCountLabels
