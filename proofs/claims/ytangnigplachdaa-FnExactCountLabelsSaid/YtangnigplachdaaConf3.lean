/- ConfusionOf, the reference's part. -/
import Derived.Test.YtangnigplachdaaConf2
namespace Go.Proofs.Ytangnigplachdaa
set_option linter.unusedSimpArgs false
set_option linter.unusedVariables false
open Go.RowKit

set_option maxRecDepth 100000 in
set_option maxHeartbeats 4000000 in
theorem l10Greatest_any (bl bt : Nat) (p q : Option Addr) (n c cq R C O : Nat) (css : List (List Value)) (L : List shLayer.T) (us : List Value) (xs : List Nat) (w : World) (hLay : Lays w p n css L) (hM : ModOk L) (hCI : (C : Int) = inL L 0) (hO : (O : Int) = outL L) (hO1 : 1 ≤ O) (hO8 : O ≤ 8)
    (f0 : w.cell? ⟨bl, 0, none⟩ = some (.slice p n c)) (t0 : w.cell? ⟨bt, 0, none⟩ = some (.int .i64 R)) (t1 : w.cell? ⟨bt, 1, none⟩ = some (.int .i64 C)) (t2 : w.cell? ⟨bt, 2, none⟩ = some (.slice q (R * C) cq))
    (hR0 : 1 ≤ R) (hR1 : R ≤ 16) (hC1 : C ≤ 16) (hx : xs.length = R * C) (hcq : R * C ≤ cq) (hcm : cq ≤ maxLen) (hp : Cs w q us) (hf : F32s us xs) :
    Calls Try.prog 104 #[.pointer (some ⟨bl, 0, none⟩), .pointer (some ⟨bt, 0, none⟩)] w (RetI w (grtL (rowsM L xs C R) O R)) := by
  have K := l03Rows_any (sp := none) (sp2 := none) bl 0 bt 0 p q n c cq R C css L us xs w hLay hM hCI f0 t0 t1 t2 hR1 hC1 hx hcq hcm hp hf
  have hz := rowsM_len (xs := xs) (c := C) hM hCI hO hx R (Nat.le_refl _)
  rw [← hO] at K
  have G := hid (fun (q' : Option Addr) (c' : Nat) (vs : List Value) W h1 h2 h3 h4 => GreatestColumns_any R O (rowsM L xs C R).length c' q' vs (rowsM L xs C R) W ⟨hR0, hR1⟩ ⟨hO1, by omega⟩ hz rfl h1 h2 h3 h4)
  generalize rowsM L xs C R = zs at *
  have Hgl := hid (grtL_len zs O R)
  generalize hgl : grtL zs O R = gl at *
  clear hLay hM hx hcq hf hp hz hgl hO hCI
  go_enter Try.func104, Try.ntmps104
  go_wp2_with fail
  refine K.mono ?_
  rintro e w1 ⟨q1, c1, vs1, rfl, own1, hf1, e1⟩
  go_wp2_with fail
  refine (G.out q1 c1 vs1 _ (own_cap own1).1 (own_cap own1).2 (own_Cs own1) hf1).mono ?_
  rintro e w2 ⟨q2, c2, rfl, own2, e2⟩
  go_wp2
  go_ret
  have hh := Hgl.out
  subst hh
  exact ⟨q2, c2, rfl, own_base own2 e1.size, e1.trans e2⟩
end Go.Proofs.Ytangnigplachdaa
namespace Go.Proofs.Ytangnigplachdaa.lConfusionOf
open Go.RowKit
set_option maxRecDepth 100000 in
set_option maxHeartbeats 4000000 in
theorem spec_ok (cs0 : List Value) (D0 : shModel.T) (cs1 : List Value) (D1 : shTensor.T) (cs2 : List Value) (D2 : List Int) (w : World) (h0 : Rep w shModel cs0 D0) (h1 : Rep w shTensor cs1 D1) (h2 : Rep w (.sl .int) cs2 D2) (f0 : Fit shModel D0) (f1 : Fit shTensor D1) (_ : Fit (.sl .int) D2) : Calls Try.prog 60 #[ofCs shModel cs0, ofCs shTensor cs1, ofCs (.sl .int) cs2] w (OutOk w (.sl (.sl .int)) (res D0 D1 D2)) := by
  obtain ⟨L0, u0⟩ := D0
  obtain ⟨c0, c1, rfl, k0, rfl⟩ := h0
  obtain ⟨p, c, rfl, _⟩ := rep_val k0
  obtain ⟨p', c', css, he0, L⟩ := lays_of k0 f0.1
  cases he0
  obtain ⟨q, cq, us, rfl, hp, hf, hcq, hcm⟩ := ten_vals h1
  obtain ⟨r, k, xs, u1⟩ := D1
  obtain ⟨p3, c3, rfl, hl3, hlc, hlm⟩ := rep_ints.1 h2
  dsimp only at hp hf hcq hcm ⊢
  simp only [ofCs, Sh.agg, if_true, List.append_nil, List.headD_cons, Bool.false_eq_true, if_false]
  obtain ⟨W0, hW0⟩ : ∃ W0, W0 = (w.alloc (.cells #[.slice p L0.length c] 32)).alloc (.cells #[.int .i64 r, .int .i64 k, .slice q xs.length cq] 45) := ⟨_, rfl⟩
  obtain ⟨E0, s0, b0, b1⟩ := box2 hW0
  have t0 : W0.cell? ⟨w.heap.size + 1, 0, none⟩ = some (.int .i64 r) := cell_of_heap b1 rfl
  have t1 : W0.cell? ⟨w.heap.size + 1, 1, none⟩ = some (.int .i64 k) := cell_of_heap b1 rfl
  have t2 : W0.cell? ⟨w.heap.size + 1, 2, none⟩ = some (.slice q xs.length cq) := cell_of_heap b1 rfl
  have a0 : W0.cell? ⟨w.heap.size, 0, none⟩ = some (.slice p L0.length c) := cell_of_heap b0 rfl
  clear b0 b1
  have hlm2 := Nat.le_trans hlc hlm
  have A := hid (l10Labels_any w.heap.size (w.heap.size + 1) p q p3 L0.length c xs.length cq D2.length c3 r k css L0 D2 W0 (L.ext E0) a0 (Nat.le_trans hcq hcm) t0 t1 t2 (hl3.ext E0) rfl hlm2)
  have hiff := hid (labB_iff (d := (L0, u0)) (x := (r, k, xs, u1)) (l := D2))
  unfold maxLen at hlm2
  cases hb : labB L0 r k xs.length D2
  · rw [res_no (fun h => by have h3 := hiff.out.2 h; dsimp only at h3; rw [hb] at h3; cases h3)]
    rw [hb] at A
    clear k0 L h1 hp hf hcq f0 f1 hiff hb
    generalize L0.length = n0 at *
    generalize xs.length = n1 at *
    go_enter Try.func60, Try.ntmps60
    go_wp2_with fail
    rw [← hW0]
    clear hW0
    refine A.out.mono ?_
    rintro e w1 ⟨rfl, e1⟩
    go_wp2
    go_ret2
    exact outOk_no rfl (E0.trans e1)
  have hok := hiff.out.1 hb
  rw [hb] at A
  have hok0 := hok
  obtain ⟨⟨g1, g2, g3⟩, g4, g5⟩ := hok
  dsimp only at g1 g2 g3 g4 g5
  have hM := modOk g1
  obtain ⟨R, C, e1, e2, hR, hR1, hC, hC1, hn⟩ := tenB_of g2
  subst e1 e2
  obtain ⟨O, hO, hO1, hO8⟩ := outL_nat hM
  have hBn : D2.length = R := by omega
  have hres : res (L0, u0) (R, C, xs, u1) D2 = (tabF O D2 (bestF L0 xs C O) R, true) := by
    unfold res
    rw [if_pos hok0]
    dsimp only
    rw [← hO, hBn, Int.toNat_natCast, Int.toNat_natCast]
  rw [hres]
  rw [← hO] at g5
  have hlab := hid (fun i (hi : i < R) => show 0 ≤ D2.getD i 0 ∧ D2.getD i 0 < O from by
    have := lblB_at g5 (i := i) (by omega)
    rw [List.getD_eq_getElem?_getD, List.getElem?_eq_getElem (by omega), Option.getD_some]; omega)
  have E := hid (fun W (h : Ext W0 W) => l03Out_any (sp := none) w.heap.size 0 p L0.length c css L0 W (L.ext (E0.trans h)) hM.pos (h.cell a0))
  rw [hn] at t2
  have G := hid (fun W (h : Ext W0 W) => l10Greatest_any w.heap.size (w.heap.size + 1) p q L0.length c cq R C O css L0 us xs W (L.ext (E0.trans h)) hM g3 hO hO1 hO8 (h.cell a0) (h.cell t0) (h.cell t1) (h.cell t2) hR hR1 hC1 hn (by rw [← hn]; exact hcq) hcm (hp.ext (E0.trans h)) hf)
  rw [← hn] at t2
  rw [← hO] at E
  have HB := hid hBn
  have hzr := fun i (hi : i < R) => lCountCorrect.rowT_rowsM (xs := xs) (c := C) hM g3 hO hn hi
  have HG := hid (fun i (hi : i < R) => show (grtL (rowsM L0 xs C R) O R).getD i 0 = ((bestF L0 xs C O i : Nat) : Int) from by rw [grtL_at hi]; unfold bestF; rw [hzr i hi])
  have HGL := hid (grtL_len (rowsM L0 xs C R) O R)
  have Hlt := hid (fun i => show bestF L0 xs C O i < O from gi_lt _ (by omega))
  have HN1 := hid hn
  clear hzr hok0 hb hiff hres g1 g2 g3 g4 g5 hM hO k0 L h1 hp hf hcq f0 f1 hBn hn
  generalize bestF L0 xs C O = g at *
  generalize grtL (rowsM L0 xs C R) O R = gl at *
  generalize L0.length = n0 at *
  generalize xs.length = n1 at *
  generalize hn2 : D2.length = n2 at *
  have HN2 := hid hn2
  clear hn2
  go_enter Try.func60, Try.ntmps60
  go_wp2_with fail
  rw [← hW0]
  clear hW0
  refine A.out.mono ?_
  rintro e w1 ⟨rfl, e1⟩
  have eA := e1
  go_wp2_with fail
  refine (E.out _ eA).mono ?_
  rintro e w2 ⟨rfl, e2⟩
  have eB := eA.trans e2
  have hst : (w2.alloc (.cells #[] 62)).ownsRow w2.heap.size 62 (Sh.sz (.sl .int)) (.slice (some ⟨w2.heap.size, 0, none⟩) 0 0) 0 [] := World.ownsRow_made w2 #[] 0 (Nat.le_refl _) (by decide) rfl
  have e3 := eB.trans (Ext.alloc w2 (.cells #[] 62))
  clear A E
  go_wp2_with fail
  generalize hW2 : w2.alloc (.cells #[] 62) = W2 at *
  go_loopw [9, 10] (fun ov iv wr => ∃ (i : Nat) (q6 : Option Addr) (c6 : Nat) (cs : List (List Value)) (bss : List (List Nat)), i ≤ O ∧ iv = .int .i64 i ∧ ov = .slice q6 i c6 ∧ Hid (GrowOwn wr w2.heap.size 62 (.sl .int) (.slice q6 i c6) (List.replicate i (List.replicate O (0 : Int))) cs bss) ∧ Ext W0 wr ∧ w2.heap.size ≤ wr.heap.size) (fun _ iv _ => O - (intOf iv).toNat)
  case atStart => exact ⟨0, _, _, [], [], by omega, rfl, rfl, GrowOwn.empty hst, e3, by rw [← hW2]; simp⟩
  case round =>
    clear hst e3 hW2
    obtain ⟨i, q6, c6, cs, bss, hi, rfl, rfl, HG6, he, hsz⟩ := hrel
    by_cases hlt : i < O
    · have hrow := HG6.out.row
      rw [List.length_replicate] at hrow
      go_wp2_with (first | ((with_reducible show wpList _ _ _ (Oper.mk _ (Op.makeSlice _ _ _) _ _ _ _ :: _) _ _); refine wl_make wr.heap.size O rfl rfl rfl rfl (by unfold maxLen; omega) (by omega) (Nat.le_refl _) ?_; intro g8 w8 own8 e8) | ((with_reducible show wpList _ _ _ (Oper.mk _ (Op.buildSlice _ _ _) _ _ _ _ :: Oper.mk _ (Op.call _) _ _ _ _ :: _) _ _); refine wl_app1b (u := .slice (some ⟨g8, 0, none⟩) O O) rfl rfl rfl rfl rfl (by rfl) (by rfl) (fun _ => rfl) (fun _ => rfl) (own_ext hrow e8) (by unfold maxLen; omega) (by omega) (by have := e8.size; omega) ?_; intro g9 c9 w9 own9 gr9 hw9))
      go_roundw
      case rel =>
        have hf8 := own_le own8 _ rfl
        rw [made_ints] at own8
        have oi : Own w8 (.sl .int) [.slice (some ⟨g8, 0, none⟩) O O] (List.replicate O (0 : Int)) [g8] := own_intsE.2 ⟨by simp, ownRow_of own8, (own_cap own8).1, (own_cap own8).2, rfl⟩
        have H9 := HG6.out.snoc e8 oi (by simp) (fun b hb => by simp at hb; subst hb; exact hf8) hsz (n := i) (by simp) own9 gr9 hw9
        rw [← List.replicate_succ'] at H9
        exact ⟨i + 1, _, _, _, _, by omega, by go_num, rfl, H9, (he.trans e8).grown gr9 (fun kk hk9 => by have := own_le hrow kk hk9; have := eB.size; omega), by have := e8.size; have := gr9.size; omega⟩
      case measure => simp [intOf]; omega
    · obtain rfl : i = O := by omega
      obtain ⟨wo, rfl⟩ : ∃ wo : World, wo = wr := ⟨_, rfl⟩
      have hT := HG6.out.own
      clear HG6
      go_wp2_with fail
      refine (G.out _ he).mono ?_
      rintro e w4 ⟨q4, c4, rfl, own4, e4⟩
      rw [HGL.out] at own4 ⊢
      have he4 := he.trans e4
      obtain ⟨bs0, ho0, hnd0, hlo0⟩ := hT
      obtain ⟨pT, cT, css0, bss0, hT1, T0⟩ := tb_of (B := w2.heap.size) ⟨bs0, ho0, hnd0, hlo0⟩
      rw [List.length_replicate] at hT1 T0
      cases hT1
      have Tlt := hid T0.lt
      have T4 := hid (T0.ext e4)
      clear G T0 ho0 hnd0 hlo0
      go_wp2
      go_loopw [12] (fun iv wr => ∃ (r : Nat), r ≤ n2 ∧ iv = .int .i64 r ∧ Hid (Tb w2.heap.size (.sl .int) wr q6 i c6 (tabF i D2 g r) css0 bss0) ∧ Ext W0 wr ∧ wr.ownsRow wo.heap.size 2 1 (.slice q4 R c4) R (gl.map (.int .i64))) (fun iv _ => n2 - (intOf iv).toNat)
      case atStart => exact ⟨0, by omega, rfl, T4, he4, own4⟩
      case round =>
        clear T4 he4 own4 he hsz
        obtain ⟨r, hr, rfl, HT, he, ownG⟩ := hrel
        by_cases hlt2 : r < n2
        · have hrR : r < R := by have := HB.out; omega
          have hWr := he.trans (Ext.drew wr)
          have hlr := hl3.ext (E0.trans hWr)
          have hgD := (own_Cs ownG).ext (Ext.drew wr)
          obtain ⟨hb1, hb2⟩ := hlab.out r hrR
          have hgr := Hlt.out r
          have hglr := HG.out r hrR
          obtain ⟨x, hx1, hx2, hx3⟩ := tabF_get (l := D2) (g := g) (r := r) (O := i) (a := (D2.getD r 0).toNat) (by omega)
          obtain ⟨cs, bs, d, ha1, ha2, ha3, ha4⟩ := HT.out.at (i := (D2.getD r 0).toNat) (by omega)
          rw [hx1] at ha3
          cases ha3
          obtain ⟨qa, ca, rfl, oa, oc1, oc2, rfl⟩ := own_ints.1 ha4
          have hbd := tabF_bd i D2 g r (D2.getD r 0).toNat (g r)
          rw [hx2] at hbd
          have hTs : tabF i D2 g (r + 1) = (tabF i D2 g r).set (D2.getD r 0).toNat (x.set (g r) (x.getD (g r) 0 + 1)) := by
            show incT _ _ _ = _
            unfold incT
            rw [hx2]
          have HTs := hid hTs
          have hga := one_get HT.out.all ha1
          have hcf : css0.flatten.length = i := by have h := flat_len' (s := 1) HT.out.all; rw [h, HT.out.cnt, Nat.mul_one]
          have ho1 := HT.out.row.cs
          have hbs := hid ha2
          have hcs := hid ha1
          have hx3' := hid hx3
          have hga := hid hga
          have hcf := hid hcf
          have oa := hid oa
          have oc := hid (And.intro oc1 oc2)
          have ra := oa.out.cs
          have d1 := ho1.ext (Ext.drew wr)
          have d2 := ra.ext (Ext.drew wr)
          generalize hlb : D2.getD r 0 = lb at *
          have Hlb := hid hlb
          generalize hgg : g r = gr at *
          have Hglr := hid hglr
          generalize hxv : x.getD gr 0 = xv at *
          have Hxv := hid hxv
          have qx : IntKind.i64.wrap (xv + 1) = xv + 1 := wrap_in _ (by omega) (by omega)
          have hgll := hid (show gl.length = R from HGL.out)
          clear hxv hlb hgg hx1 hx2 ha1 ha2 ha4 hTs hx3 ho1 ra hglr
          rw [hx3'.out] at hcs hga oa
          go_wp2
          refine wp_region_xt 15 (F := fun _ _ _ => False) (by kernel_rfl) (by kernel_rfl) (by kernel_rfl) (by kernel_rfl) (by kernel_rfl) ?_
          intro wf hwf
          simp only [List.take_succ_cons, List.take_zero, List.drop_succ_cons, List.drop_zero]
          repeat (first
            | (refine x_skip rfl ?_; simp only [Act.put, ev_tmp, List.setIfInBounds_toArray, List.set_cons_succ, List.set_cons_zero, List.getD_cons_succ, List.getD_cons_zero])
            | (refine x_mv rfl rfl rfl ?_; simp only [Act.put, ev_tmp, List.setIfInBounds_toArray, List.set_cons_succ, List.set_cons_zero, List.getD_cons_succ, List.getD_cons_zero])
            | (refine x_as rfl rfl rfl ?_; simp only [Act.put, ev_tmp, List.setIfInBounds_toArray, List.set_cons_succ, List.set_cons_zero, List.getD_cons_succ, List.getD_cons_zero])
            | ((with_reducible show wpX _ _ _ _ _ _ (Oper.mk _ (Op.indexAddr _ _ _) _ _ _ _ :: Oper.mk _ (Op.load _ _) _ _ _ _ :: _) _); refine x_idxload rfl rfl (fun _ => rfl) rfl (fun _ => rfl) rfl rfl d1 hcf.out (by omega) (by omega) ?_; intro u hu; rw [hga.out] at hu; cases hu; simp only [Act.put, ev_tmp, List.setIfInBounds_toArray, List.set_cons_succ, List.set_cons_zero, List.getD_cons_succ, List.getD_cons_zero])
            | ((with_reducible show wpX _ _ _ _ _ _ (Oper.mk _ (Op.indexAddr _ _ _) _ _ _ _ :: Oper.mk _ (Op.load _ _) _ _ _ _ :: _) _); refine x_ldI rfl rfl (fun _ => rfl) rfl (fun _ => rfl) rfl rfl hlr HN2.out (by omega) (by omega) ?_; rw [Int.toNat_natCast, Hlb.out]; simp only [Act.put, ev_tmp, List.setIfInBounds_toArray, List.set_cons_succ, List.set_cons_zero, List.getD_cons_succ, List.getD_cons_zero])
            | ((with_reducible show wpX _ _ _ _ _ _ (Oper.mk _ (Op.indexAddr _ _ _) _ _ _ _ :: Oper.mk _ (Op.load _ _) _ _ _ _ :: _) _); refine x_ldI rfl rfl (fun _ => rfl) rfl (fun _ => rfl) rfl rfl hgD hgll.out (by omega) (by omega) ?_; rw [Int.toNat_natCast, Hglr.out]; simp only [Act.put, ev_tmp, List.setIfInBounds_toArray, List.set_cons_succ, List.set_cons_zero, List.getD_cons_succ, List.getD_cons_zero])
            | ((with_reducible show wpX _ _ _ _ _ _ (Oper.mk _ (Op.indexAddr _ _ _) _ _ _ _ :: Oper.mk _ (Op.load _ _) _ _ _ _ :: _) _); refine x_ldI rfl rfl (fun _ => rfl) rfl (fun _ => rfl) rfl rfl d2 hx3'.out (by omega) (by omega) ?_; rw [Int.toNat_natCast, Hxv.out]; simp only [Act.put, ev_tmp, List.setIfInBounds_toArray, List.set_cons_succ, List.set_cons_zero, List.getD_cons_succ, List.getD_cons_zero])
            | ((with_reducible show wpX _ _ _ _ _ _ (Oper.mk _ (Op.indexAddr _ _ _) _ _ _ _ :: _) _); refine x_idx (s := 1) rfl rfl rfl rfl (d2.isS (by intro h; have := congrArg List.length h; rw [List.length_map, hx3'.out] at this; simp at this; omega)) (by omega) (by omega) ?_; rw [Int.toNat_natCast, Nat.mul_one]; simp only [Act.put, ev_tmp, List.setIfInBounds_toArray, List.set_cons_succ, List.set_cons_zero, List.getD_cons_succ, List.getD_cons_zero])
            | (refine x_run rfl fun K hK w1 hw1 => ?_; go_simp; refine hK _ ?_; clear hK K  hw1 w1))
          refine x_nil ?_
          have eW := hWr.trans hwf
          have To := hid (HT.out.ext ((Ext.drew wr).trans hwf))
          have oa2 := (Own.ext (own_intsE.2 ⟨hx3'.out, oa.out, by have := oc.out.1; rw [hx3'.out] at this; exact this, oc.out.2, rfl⟩) ((Ext.drew wr).trans hwf))
          have oa3 := (own_intsE.1 oa2).2.1
          obtain ⟨s1, s2, s3, v0, s4⟩ := oa3.set gr (by rw [List.length_map, hx3'.out]; omega) (.int .i64 (xv + 1))
          have hin := fun b (hb : b ∈ blocksOf qa) => List.mem_append_right (blocksOf q6) (List.mem_flatten.2 ⟨_, List.mem_of_getElem? hbs.out, hb⟩)
          have Hin := hid hin
          clear hin
          go_wp2_with ((with_reducible show wpList _ _ _ (Oper.mk _ (Op.store _ _ _) _ _ _ _ :: _) _ _); refine wl_store1 rfl rfl rfl rfl rfl s4 s3 ?_)
          go_roundw
          case rel =>
            rw [← List.map_set] at s1
            have T3 := To.out.turn hcs.out hbs.out s2 (fun b hb => hb) (d := x.set gr (xv + 1)) (own_intsE.2 ⟨by rw [List.length_set]; exact hx3'.out, s1, by have := oc.out.1; rw [hx3'.out] at this; exact this, oc.out.2, rfl⟩)
            rw [← HTs.out] at T3
            exact ⟨r + 1, by omega, by go_num, T3, eW.chg s2 (fun b hb => Nat.le_trans eB.size (To.out.lo b (Hin.out b hb))), own_chgB (own_ext ownG ((Ext.drew wr).trans hwf)) s2 (fun b hb => Tlt.out b (Hin.out b hb))⟩
          case measure => simp [intOf]; omega
        · obtain rfl : r = n2 := by omega
          have hR0 : r = R := HB.out
          subst hR0
          go_wp2
          go_ret2
          obtain ⟨bs, ho, hnd, hlo⟩ := HT.out.own
          exact ⟨_, bs, rfl, ho, hnd, fun b hb => Nat.le_trans (E0.trans eB).size (hlo b hb), E0.trans he⟩
end Go.Proofs.Ytangnigplachdaa.lConfusionOf
