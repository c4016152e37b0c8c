/- The law FnConfusion answers true at every input: the walk. -/
import Derived.Test.YtlimabbeaimdgaaConfP
import Derived.Test.YtlimabbeaimdgaaNumberBytesLaw
namespace Go.Proofs.Ytlimabbeaimdgaa.lConfusion
set_option linter.unusedSimpArgs false
set_option linter.unusedVariables false
open Go.RowKit

theorem inL_nat {l : List shLayer.T} (hM : ModOk l) : ∃ m : Nat, (m : Int) = inL l 0 ∧ 1 ≤ m ∧ m ≤ 8 := by
  have hp := hM.pos
  have h1 := layD_int (hM.lay 0 (by omega))
  have h2 : inL l 0 = (l[0]'(by omega)).2.1 := by unfold inL; rw [List.getElem?_eq_getElem (show 0 < l.length by omega)]; rfl
  exact ⟨(l[0]'(by omega)).2.1.toNat, by rw [h1.1, h2], h1.2.2.2.1, h1.2.2.1⟩
theorem rows_at {w : World} {cs : List Value} {T : List (List Int)} (h : Rep w (.sl (.sl .int)) cs T) : ∃ p c tcs, cs = [.slice p T.length c] ∧ Cs w p tcs ∧ tcs.length = T.length ∧ ∀ a, a < T.length → ∃ pa ca, tcs[a]? = some (.slice pa (T.getD a []).length ca) ∧ Cs w pa ((T.getD a []).map (Value.int .i64)) := by
  obtain ⟨p, c, css, h1, h2, h3, h4, h5, h6, h7⟩ := rep_sl h
  refine ⟨p, c, css.flatten, h1, h2, by rw [flat_len h6, h7]; exact Nat.mul_one _, fun a ha => ?_⟩
  obtain ⟨ca, hca, ra⟩ := h5.get a T[a] (by simp)
  obtain ⟨pa, c2, rfl, k1, k2, k3⟩ := rep_ints.1 ra
  have hd : T.getD a [] = T[a] := by simp [ha]
  rw [hd]
  refine ⟨pa, c2, ?_, k1⟩
  have hal : a < css.length := by omega
  have := flat_get (s := 1) (i := a) (j := 0) h6 hal (by omega)
  rw [Nat.mul_one, Nat.add_zero] at this
  rw [this]
  have : css[a] = [.slice pa T[a].length c2] := by
    obtain ⟨_, hh⟩ := List.getElem?_eq_some_iff.1 hca
    exact hh
  rw [this]; rfl
/-- A number, once its place is behind. -/
def dOn (i k : Nat) (c : Int) : Int := if i < k then c else 0
theorem dOn_zero (i : Nat) (c : Int) : dOn i 0 c = 0 := by unfold dOn; rw [if_neg (by omega)]
theorem dOn_at (i : Nat) (c : Int) : dOn i (i + 1) c = dOn i i c + c := by unfold dOn; rw [if_pos (by omega), if_neg (by omega)]; omega
theorem dOn_ne {i k : Nat} (h : ¬ i = k) (c : Int) : dOn i (k + 1) c = dOn i k c := by
  unfold dOn
  by_cases h1 : i < k
  · rw [if_pos h1, if_pos (by omega)]
  · rw [if_neg h1, if_neg (by omega)]
theorem dOn_all {i k : Nat} (h : i < k) (c : Int) : dOn i k c = c := by unfold dOn; rw [if_pos h]
theorem dOn_bd {i k : Nat} {c m : Int} (h : 0 ≤ c ∧ c ≤ m) : 0 ≤ dOn i k c ∧ dOn i k c ≤ m := by unfold dOn; split <;> omega
theorem row_val {T : List (List Int)} {i b : Nat} {v : Int} (hb : b < (T.getD i []).length) (h : (T.getD i []).getD b 0 = v) : ((T.getD i []).map (Value.int .i64))[b]? = some (.int .i64 v) := by
  generalize T.getD i [] = X at *
  subst h
  simp [hb]
set_option maxRecDepth 100000 in
set_option maxHeartbeats 4000000 in
theorem law_any (p0 q0 : Option Addr) (n0 c0 m0 d0 : Nat) (bs ms : List Nat) (w : World) (hc0 : Cs w p0 (u8s bs)) (hl0 : bs.length = n0) (hb0 : ∀ b ∈ bs, b < 256) (hd0 : Cs w q0 (u8s ms)) (hm0 : ms.length = m0) (hb1 : ∀ b ∈ ms, b < 256) :
    Calls Try.prog 7 #[.slice p0 n0 c0, .slice q0 m0 d0] w fun e w' => e = .returned (.bool true) ∧ Ext w w' := by
  go_enter Try.func7, Try.ntmps7
  go_wp2_with fail
  refine (lNumberBytes.r8Long_any _ _ _ _ _ _ _).mono ?_
  rintro e w1 ⟨rfl, rfl⟩
  by_cases hlong : 48 < n0 ∨ 48 < m0
  · have hd : (decide (48 < n0) || decide (48 < m0)) = true := by simpa using hlong
    rw [hd]
    go_wp2
    go_ret
    exact ⟨rfl, Ext.refl _⟩
  have hn0 : n0 ≤ 48 := by omega
  have hmm0 : m0 ≤ 48 := by omega
  have hd : (decide (48 < n0) || decide (48 < m0)) = false := by simp; omega
  rw [hd]
  clear hd hlong
  go_wp2_with fail
  refine (R8Any_any p0 n0 c0 bs _ hc0 hl0 (by omega) hb0).mono ?_
  rintro e w1 ⟨L, q, c, rfl, hmod, hfit, ho, e1⟩
  have hM := modOk hmod
  obtain ⟨O, hO, hO1, hO8⟩ := outL_nat hM
  obtain ⟨I, hI, hI1, hI8⟩ := inL_nat hM
  obtain ⟨obs, ow, _⟩ := ho
  obtain ⟨p', c', css, hv, LY⟩ := lays_of ow.rep hfit
  cases hv
  have hrepL := ow.rep
  have b5 := HB.new w1 #[.slice q L.length c] 33
  have e2 := Ext.alloc w1 (.cells #[.slice q L.length c] 33)
  obtain ⟨w2, hw2⟩ : ∃ w2, w2 = w1.alloc (.cells #[.slice q L.length c] 33) := ⟨_, rfl⟩
  rw [← hw2] at b5 e2
  go_wp2_with fail
  rw [← hw2]
  clear hw2
  have E2 := e1.trans e2
  refine (r8At_any q0 m0 d0 ms 40 6 w2 (hd0.ext E2) hm0 (by omega) hb1 (by omega)).mono ?_
  rintro e w3 ⟨x, rfl, hx, rfl⟩
  have hx := hx (by omega)
  obtain ⟨R, hR⟩ : ∃ R : Nat, (1 : Int) + (x : Int) = (R : Int) := ⟨1 + x, by omega⟩
  have hR1 : 1 ≤ R ∧ R ≤ 6 := by omega
  clear hx
  have hL1 := hM.pos
  have hLY := LY.ext e2
  have hrepL := hrepL.ext e2
  obtain ⟨ci, k1, _, k2, k4⟩ := hLY.at (i := L.length - 1) (by omega)
  rw [outL_eq rfl] at k2
  obtain ⟨di, j1, j2, _, _⟩ := hLY.at (i := 0) (by omega)
  rw [← hO] at k2
  rw [← hI] at j2
  have l1 := hLY.cs; have l3 := hLY.size; have l5 := hLY.cnt
  have hmo : shModel.T := (L, ())
  have K1 := hid k1; have K2 := hid k2; have J1 := hid j1; have J2 := hid j2
  have hfL := hid hfit
  have hML := hid hM
  have HO := hid hO
  have HI := hid hI
  have hmodL := hid hmod
  have hrepL := hid hrepL
  have hL6 := hM.few
  clear k1 k2 j1 j2 LY hLY ow hO hI hM hmod hfit
  obtain ⟨n, hn⟩ : ∃ n, n = L.length := ⟨_, rfl⟩
  rw [← hn] at l5 hL1 K1 hrepL b5 hL6 ⊢
  have HN := hid hn
  have L5 := hid l5
  clear hn l5
  have r5 := b5.cell 0 rfl
  have hw1 : IntKind.i64.wrap ((n : Int) - 1) = (n : Int) - 1 := wrap_in _ (by omega) (by omega)
  go_wp2_with (first | ((with_reducible show wpList _ _ _ (Oper.mk _ (Op.indexAddr _ _ _) _ _ _ _ :: Oper.mk _ (Op.fieldAddr _ _ _) _ _ _ _ :: _) _ _); refine wl_ldField (f := 2) (off := 2) (j := n - 1) rfl rfl rfl rfl rfl rfl (fun _ => rfl) (fun _ _ => rfl) fo_implLayer_2 rfl rfl (by omega) l1 l3 L5.out (by omega) k4 K1.out K2.out ?_) | ((with_reducible show wpList _ _ _ (Oper.mk _ (Op.indexAddr _ _ _) _ _ _ _ :: Oper.mk _ (Op.fieldAddr _ _ _) _ _ _ _ :: _) _ _); refine wl_ldField (f := 1) (off := 1) (j := 0) rfl rfl rfl rfl rfl rfl (fun _ => rfl) (fun _ _ => rfl) fo_implLayer_1 rfl rfl rfl l1 l3 L5.out (by omega) k4 J1.out J2.out ?_) | fail)
  refine (R8Tensor_any q0 m0 d0 ms R I w2 (hd0.ext E2) hm0 (by omega) hb1 (by omega) (by omega)).mono ?_
  rintro e w4 ⟨xs, tq, tc, vs, rfl, hx, hxb, ot, hf, e4⟩
  have b8 := HB.new w4 #[.int .i64 R, .int .i64 I, .slice tq (R * I) tc] 57
  have e5 := Ext.alloc w4 (.cells #[.int .i64 R, .int .i64 I, .slice tq (R * I) tc] 57)
  obtain ⟨w5, hw5⟩ : ∃ w5, w5 = w4.alloc (.cells #[.int .i64 R, .int .i64 I, .slice tq (R * I) tc] 57) := ⟨_, rfl⟩
  have s5 : w5.heap.size = w4.heap.size + 1 := by rw [hw5]; simp
  rw [← hw5] at b8 e5
  have hten : Own w4 shTensor [.int .i64 R, .int .i64 I, .slice tq (R * I) tc] ((R : Int), (I : Int), xs, ()) (blocksOf tq) := own_ten hx (by
    have := own_flts.2 ⟨tq, tc, vs, rfl, ownRow_of (by rw [hx]; exact ot), hf, (by rw [hx]; exact (own_cap ot).1), (own_cap ot).2, rfl⟩
    rw [hx] at this; exact this)
  have hrepT : Rep w5 shTensor [.int .i64 R, .int .i64 I, .slice tq (R * I) tc] ((R : Int), (I : Int), xs, ()) := Rep.ext e5 hten.rep
  have E5 := (E2.trans e4).trans e5
  have hrepL5 := (hrepL.out.ext e4).ext e5
  have r5 := (e4.trans e5).cell r5
  have HRT := hid hrepT
  have HRL := hid hrepL5
  have HX := hid hx
  have hRI : R * I ≤ 6 * 8 := Nat.mul_le_mul hR1.2 hI8
  clear hten ot hf vs l1 l3 k4 hx hrepT hrepL5 hrepL
  have hst : (w5.alloc (.cells #[] 2)).ownsRow w5.heap.size 2 1 (.slice (some ⟨w5.heap.size, 0, none⟩) 0 0) 0 [] := World.ownsRow_made w5 #[] 0 (Nat.le_refl _) (by decide) rfl
  have e6 := Ext.alloc w5 (.cells #[] 2)
  go_wp2_with fail
  rw [← hw5, ← s5]
  clear hw5 s5
  go_loopw [9, 10] (fun ov iv wr => ∃ (i : Nat) (ls : List Int) (lq : Option Addr) (lc : Nat), i ≤ R ∧ iv = .int .i64 i ∧ ov = .slice lq i lc ∧ wr.ownsRow w5.heap.size 2 1 (.slice lq i lc) i (ls.map (Value.int .i64)) ∧ Hid (ls.length = i ∧ ∀ z ∈ ls, 0 ≤ z ∧ z < (O : Int)) ∧ Ext w5 wr) (fun _ iv _ => R - (intOf iv).toNat)
  case atStart => exact ⟨0, [], _, _, by omega, rfl, rfl, hst, hid ⟨rfl, fun z hz => by simp at hz⟩, e6⟩
  case round =>
    clear hst e6
    obtain ⟨i, ls, lq, lc, hi, rfl, rfl, own0, HLS, he⟩ := hrel
    have hB := he.size
    by_cases hlt : i < R
    · go_wp2_with fail
      refine (r8At_any q0 m0 d0 ms i O wr (hd0.ext (E5.trans he)) hm0 (by omega) hb1 (by omega)).mono ?_
      rintro e w7 ⟨z, rfl, hz, rfl⟩
      have hz := hz (by omega)
      go_wp2_with ((with_reducible show wpList _ _ _ (Oper.mk _ (Op.buildSlice _ _ _) _ _ _ _ :: Oper.mk _ (Op.call _) _ _ _ _ :: _) _ _); refine wl_app1b (u := .int .i64 (z : Int)) rfl rfl rfl rfl rfl rfl rfl (fun _ => rfl) (fun _ => rfl) own0 (by unfold maxLen; omega) (by omega) (by omega) ?_; intro g9 c9 w9 own9 gr9 hg9)
      go_roundw
      case rel =>
        have own9 : w9.ownsRow w5.heap.size 2 1 (.slice (some ⟨g9, 0, none⟩) (i + 1) c9) (i + 1) ((ls ++ [(z : Int)]).map (Value.int .i64)) := by
          rw [List.map_append]; exact own9
        exact ⟨i + 1, _, _, _, by omega, by go_num, rfl, own9, hid ⟨by rw [List.length_append, HLS.out.1]; rfl, fun y hy => by rcases List.mem_append.1 hy with h | h; exact HLS.out.2 y h; simp at h; subst h; omega⟩, he.grown gr9 (fun k hk => own_le own0 k hk)⟩
      case measure => simp [intOf]; omega
    · obtain rfl : R = i := by omega
      have E6 := E5.trans he
      have hcapl := own_cap own0
      have hlcs := own_Cs own0
      have hRls : Rep wr (.sl .int) [.slice lq R lc] ls := rep_ints.2 ⟨lq, lc, by rw [HLS.out.1], hlcs, by rw [HLS.out.1]; exact hcapl.1, hcapl.2⟩
      have r6 := he.cell r5
      have b9 := b8.ext he
      have t0 := b9.cell 0 rfl; have t1 := b9.cell 1 rfl; have t2 := b9.cell 2 rfl
      obtain ⟨g, hg⟩ : ∃ g, g = bestF L xs I O := ⟨_, rfl⟩
      have hok : okL (L, ()) ((R : Int), (I : Int), xs, ()) ls := by
        refine ⟨⟨hmodL.out, ?_, HI.out⟩, by rw [HLS.out.1], ?_⟩
        · unfold tenB
          rw [inB_true.2 (show (1 : Int) ≤ R ∧ (R : Int) ≤ 16 by omega), inB_true.2 (show (1 : Int) ≤ I ∧ (I : Int) ≤ 16 by omega)]
          simp [HX.out]
        · rw [← HO.out]
          unfold lblB
          rw [List.all_eq_true]
          intro z hz
          have := HLS.out.2 z hz
          exact inB_true.2 (by omega)
      have hres1 : lConfusionOf.res (L, ()) ((R : Int), (I : Int), xs, ()) ls = (tabF O ls g R, true) := by
        unfold lConfusionOf.res
        rw [if_pos hok]
        show (tabF (outL L).toNat ls (bestF L xs (I : Int).toNat (outL L).toNat) ls.length, true) = _
        rw [← HO.out, Int.toNat_natCast, Int.toNat_natCast, HLS.out.1, hg]
      have hres2 : lCountLabels.res (L, ()) ((R : Int), (I : Int), xs, ()) ls = (hits ls g R, true) := by
        unfold lCountLabels.res
        rw [if_pos hok]
        show (hits ls (bestF L xs (I : Int).toNat (outL L).toNat) ls.length, true) = _
        rw [← HO.out, Int.toNat_natCast, Int.toNat_natCast, HLS.out.1, hg]
      have hres3 : lRunModel.res (L, ()) ((R : Int), (I : Int), xs, ()) = (((R : Int), (O : Int), rowsM L xs I R, ()), true) := by
        unfold lRunModel.res
        rw [if_pos hok.1]
        show (((R : Int), outL L, rowsM L xs (I : Int).toNat (R : Int).toNat, ()), true) = _
        rw [← HO.out, Int.toNat_natCast, Int.toNat_natCast]
      have hrep0 : ∀ W, Ext wr W → Rep W shModel [.slice q n c] (L, ()) := fun W h => ⟨[.slice q n c], [], rfl, (HRL.out.ext he).ext h, rfl⟩
      have hrep1 : ∀ W, Ext wr W → Rep W shTensor [.int .i64 R, .int .i64 I, .slice tq (R * I) tc] ((R : Int), (I : Int), xs, ()) := fun W h => Rep.ext h (Rep.ext he HRT.out)
      have hrep2 : ∀ W, Ext wr W → Rep W (.sl .int) [.slice lq R lc] ls := fun W h => Rep.ext h hRls
      have fi : ∀ z : Nat, z ≤ 100 → Fit .int (z : Int) := fun z hz => by
        have : -9223372036854775808 ≤ (z : Int) ∧ (z : Int) ≤ 9223372036854775807 := by omega
        exact this
      have f0 : Fit shModel (L, ()) := ⟨hfL.out, trivial⟩
      have f1 : Fit shTensor ((R : Int), (I : Int), xs, ()) := ⟨fi R (by omega), fi I (by omega), hxb, trivial⟩
      have f2 : Fit (.sl .int) ls := fun (z : Int) hz => by
        have h1 := HLS.out.2 z hz
        have : -9223372036854775808 ≤ z ∧ z ≤ 9223372036854775807 := by omega
        exact this
      have CA := hid (fun W (h : Ext wr W) => lConfusionOf.impl_ok [.slice q n c] (L, ()) [.int .i64 R, .int .i64 I, .slice tq (R * I) tc] ((R : Int), (I : Int), xs, ()) [.slice lq R lc] ls W (hrep0 W h) (hrep1 W h) (hrep2 W h) f0 f1 f2)
      have CB := hid (fun W (h : Ext wr W) => lCountLabels.impl_ok [.slice q n c] (L, ()) [.int .i64 R, .int .i64 I, .slice tq (R * I) tc] ((R : Int), (I : Int), xs, ()) [.slice lq R lc] ls W (hrep0 W h) (hrep1 W h) (hrep2 W h) f0 f1 f2)
      have CC := hid (fun W (h : Ext wr W) => lRunModel.impl_ok [.slice q n c] (L, ()) [.int .i64 R, .int .i64 I, .slice tq (R * I) tc] ((R : Int), (I : Int), xs, ()) W (hrep0 W h) (hrep1 W h) f0 f1)
      simp only [hres1, ofCs, Sh.agg, if_true, List.append_nil, List.headD_cons, Bool.false_eq_true, if_false] at CA
      simp only [hres2, ofCs, Sh.agg, if_true, List.append_nil, List.headD_cons, Bool.false_eq_true, if_false] at CB
      simp only [hres3, ofCs, Sh.agg, if_true, List.append_nil, List.headD_cons, Bool.false_eq_true, if_false] at CC
      have hgO : ∀ r, r < R → g r < O := fun r hr => by rw [hg]; exact gi_lt _ hO1
      have hlR : ∀ r, r < R → 0 ≤ ls.getD r 0 ∧ ls.getD r 0 < (O : Int) := fun r hr => by
        have hj : r < ls.length := by rw [HLS.out.1]; exact hr
        exact HLS.out.2 _ (by rw [show ls.getD r 0 = ls[r] by simp [hj]]; exact List.getElem_mem hj)
      have hcells := hid (fun a b => tab_cell (O := O) a b R hlR hgO)
      have hsum := hid (sum_cells (O := O) R hlR hgO)
      have hdiag := hid (diag_tab (O := O) R hlR hgO)
      have hTl := hid (tabF_len O ls g R)
      have hbest := hid (fun r (hr : r < R) => show (bests (rowsM L xs I R) O R).getD r 0 = ((g r : Nat) : Int) by
        have h1 := lCountCorrect.rowT_rowsM hML.out HI.out HO.out HX.out hr
        have h2 : (bests (rowsM L xs I R) O R).getD r 0 = ((gi (rowT (rowsM L xs I R) O r) O : Nat) : Int) := by simp [bests, hr]
        rw [h2, h1, hg]; rfl)
      have hzl := rowsM_len (xs := xs) (c := I) hML.out HI.out HO.out HX.out R (Nat.le_refl _)
      clear hok hres1 hres2 hres3 hrep0 hrep1 hrep2 fi f0 f1 f2 hgO hlR hRls own0 hcapl hg hML hmodL HRL HRT hfL HI HO hxb
      generalize tabF O ls g R = T at *
      generalize hits ls g R = H at *
      generalize rowsM L xs I R = ys at *
      have r6' := hid r6
      have HLL := hid (show (ls.map (Value.int .i64)).length = R by rw [List.length_map]; exact HLS.out.1)
      obtain ⟨w7, hw7⟩ : ∃ w7, w7 = wr := ⟨_, rfl⟩
      go_wp2_with fail
      refine (CA.out wr (Ext.refl _)).mono ?_
      rintro e wa ⟨ca, ba, rfl, oa, _, _, ea⟩
      obtain ⟨tp, tcap, tcs, rfl, ht1, ht2, ht3⟩ := rows_at oa.rep
      have ra := ea.cell r6; have ta0 := ea.cell t0; have ta1 := ea.cell t1; have ta2 := ea.cell t2
      rw [hTl.out.1] at ht2 ht3 ⊢
      simp only [ofCs, Sh.agg, if_true, List.headD_cons, Bool.false_eq_true, if_false]
      go_wp2_with fail
      refine (CB.out wa ea).mono ?_
      rintro e wb ⟨rfl, eb⟩
      have rb := eb.cell ra; have tb0 := eb.cell ta0; have tb1 := eb.cell ta1; have tb2 := eb.cell ta2
      go_wp2_with fail
      refine (CC.out wb (ea.trans eb)).mono ?_
      rintro e wc ⟨cc, bc, rfl, oc, _, _, _, ec⟩
      obtain ⟨yq, yc, yv, rfl, y1, y2, y3, y4⟩ := ten_vals oc.rep
      have hyl : ys.length = R * O := hzl
      dsimp only at y1 y2 y3 y4 ⊢
      rw [hyl] at y3 ⊢
      simp only [ofCs, Sh.agg, if_true, List.headD_cons, Bool.false_eq_true, if_false]
      have CG := hid (fun W (h : Ext wc W) => GreatestColumns_any R O yc yq yv ys W (by omega) (by omega) hyl (y1.ext h) y2 y3 y4)
      have bd := HB.new wc #[.int .i64 R, .int .i64 O, .slice yq (R * O) yc] 57
      have ed := Ext.alloc wc (.cells #[.int .i64 R, .int .i64 O, .slice yq (R * O) yc] 57)
      obtain ⟨wd, hwd⟩ : ∃ wd, wd = wc.alloc (.cells #[.int .i64 R, .int .i64 O, .slice yq (R * O) yc] 57) := ⟨_, rfl⟩
      rw [← hwd] at bd ed
      have hRO : R * O ≤ 6 * 8 := Nat.mul_le_mul hR1.2 hO8
      clear oc y1 y2 y3 y4 hyl oa hzl
      generalize R * O = RO at *
      have v0 := bd.cell 0 rfl; have v1 := bd.cell 1 rfl; have v2 := bd.cell 2 rfl
      rw [hwd] at v0 v1 v2
      go_wp2_with fail
      rw [← hwd]
      clear hwd v0 v1 v2
      refine (CG.out wd ed).mono ?_
      rintro e w9 ⟨bq, bc, rfl, hbc, e9⟩
      have HBL := hid (show ((bests ys O R).map (Value.int .i64)).length = R by rw [List.length_map, bests_len])
      generalize bests ys O R = Bs at *
      have E9 := ((ea.trans eb).trans ec).trans (ed.trans e9)
      have hlab := hlcs.ext E9
      have htab := ht1.ext ((eb.trans ec).trans (ed.trans e9))
      have HT3 := hid (fun a (ha : a < O) => by
        obtain ⟨pa, ca, h1, h2⟩ := ht3 a ha
        exact (⟨pa, ca, h1, h2.ext ((eb.trans ec).trans (ed.trans e9))⟩ : ∃ pa ca, tcs[a]? = some (.slice pa (T.getD a []).length ca) ∧ Cs w9 pa ((T.getD a []).map (Value.int .i64))))
      have HT2 := hid ht2
      have E := E6.trans E9
      clear CA CB CC CG ht1 ht2 ht3 hlcs ra ta0 ta1 ta2 rb tb0 tb1 tb2 t0 t1 t2 r6 r6' b9 bd ea eb ec ed e9 E9
      obtain ⟨CF, hCF⟩ : ∃ CF : Nat → Nat → Int, CF = fun a b => cellN ls g a b R := ⟨_, rfl⟩
      have HCF := hid (fun a b => congrFun (congrFun hCF a) b)
      have hb6 : ∀ a b, 0 ≤ CF a b ∧ CF a b ≤ 6 := fun a b => by rw [hCF]; have := cellN_bd ls g a b R; dsimp only; omega
      have HBD1 := hid (fun a => sumTo_bd (hb6 a))
      have HBD2 := hid (sumTo_bd (f := fun a => sumTo (CF a) O) (m := 48) (fun a => by have := sumTo_bd (hb6 a) O; omega))
      have HBD3 := hid (sumTo_bd (f := fun a => CF a a) (m := 6) (fun a => hb6 a a))
      have HB6 := hid hb6
      have HSUM := hid (show sumTo (fun a => sumTo (CF a) O) O = R by rw [hCF]; exact hsum.out)
      have HDIAG := hid (show sumTo (fun a => CF a a) O = H by
        rw [← hdiag.out, diag_sum, hCF]
        exact sumTo_congr fun a _ => (hcells.out a a).symm)
      clear hCF hb6 hsum hdiag
      go_wp2
      go_loopw [19, 20, 21] (fun av dv iv wr => ∃ i : Nat, i ≤ O ∧ av = .int .i64 (sumTo (fun a => sumTo (CF a) O) i) ∧ dv = .int .i64 (sumTo (fun a => CF a a) i) ∧ iv = .int .i64 i ∧ Ext w9 wr) (fun _ _ iv _ => O - (intOf iv).toNat)
      case atStart => exact ⟨0, by omega, rfl, rfl, rfl, Ext.refl _⟩
      case round =>
        obtain ⟨i, hi, rfl, rfl, rfl, he⟩ := hrel
        by_cases hlt : i < O
        · have hs1 := hid (show sumTo (fun a => sumTo (CF a) O) (i + 1) = sumTo (fun a => sumTo (CF a) O) i + sumTo (CF i) O from rfl)
          have hs2 := hid (show sumTo (fun a => CF a a) (i + 1) = sumTo (fun a => CF a a) i + CF i i from rfl)
          have q1 := HBD2.out i
          have q2 := HBD3.out i
          have q3 : (i : Int) * 48 ≤ 384 ∧ (i : Int) * 6 ≤ 48 := by omega
          generalize sumTo (fun a => sumTo (CF a) O) i = sa at *
          generalize sumTo (fun a => CF a a) i = da at *
          obtain ⟨pa, ca, a1, a2⟩ := HT3.out i hlt
          have hlen : (T.getD i []).length = O := hTl.out.2 _ (by rw [show T.getD i [] = T[i]'(by rw [hTl.out.1]; exact hlt) by simp [hTl.out.1, hlt]]; exact List.getElem_mem _)
          have hget := hid (fun b (hb : b < O) => show ((T.getD i []).map (Value.int .i64))[b]? = some (.int .i64 (CF i b)) by
            have h1 := hcells.out i b
            rw [← HCF.out] at h1
            exact row_val (by rw [hlen]; exact hb) h1)
          have hmlen := hid (show ((T.getD i []).map (Value.int .i64)).length = O by rw [List.length_map]; exact hlen)
          rw [hlen] at a1
          have A1 := hid a1
          generalize (T.getD i []).map (Value.int .i64) = row at *
          have hOO := bne_f (rfl : (O : Int) = (O : Int))
          clear a1 hlen
          have htab1 := htab.ext he
          go_wp2_with ((with_reducible show wpList _ _ _ (Oper.mk _ (Op.indexAddr _ _ _) _ _ _ _ :: Oper.mk _ (Op.load _ _) _ _ _ _ :: _) _ _); refine wl_idxload rfl rfl rfl rfl (fun _ => rfl) rfl rfl htab1 HT2.out (by omega) (by omega) ?_; intro u hu; rw [Int.toNat_natCast, A1.out] at hu; cases hu)
          go_loopw [19, 20, 22] (fun av dv kv wr2 => ∃ k : Nat, k ≤ O ∧ av = .int .i64 (sa + sumTo (CF i) k) ∧ dv = .int .i64 (da + dOn i k (CF i i)) ∧ kv = .int .i64 k ∧ Ext w9 wr2) (fun _ _ kv _ => O - (intOf kv).toNat)
          case atStart => exact ⟨0, by omega, by simp [sumTo], by rw [dOn_zero, Int.add_zero], rfl, he⟩
          case round =>
            clear he htab1
            obtain ⟨k, hk, rfl, rfl, rfl, he⟩ := hrel
            by_cases hltk : k < O
            · have hs3 := hid (show sumTo (CF i) (k + 1) = sumTo (CF i) k + CF i k from rfl)
              have q4 := HBD1.out i k
              have q5 : (k : Int) * 6 ≤ 48 := by omega
              have q6 := HB6.out i k
              have q7 := HB6.out i i
              have HCk := hid (HCF.out i k)
              generalize sumTo (CF i) k = sk at *
              have q9 := dOn_bd (i := i) (k := k) q7
              have hd1 := hid (fun (h : i = k) => show dOn i (k + 1) (CF i i) = dOn i k (CF i i) + CF i i by subst h; exact dOn_at i _)
              have hd2 := hid (fun (h : ¬ i = k) => dOn_ne h (CF i i))
              generalize dOn i k (CF i i) = dk at *
              go_wp2
              go_loopw [23, 24] (fun ov rv wr3 => ∃ r : Nat, r ≤ R ∧ ov = .int .i64 (cellN ls g i k r) ∧ rv = .int .i64 r ∧ Ext w9 wr3) (fun _ rv _ => R - (intOf rv).toNat)
              case atStart => exact ⟨0, by omega, rfl, rfl, he⟩
              case round =>
                clear he
                obtain ⟨r, hr, rfl, rfl, he⟩ := hrel
                by_cases hltr : r < R
                · have hs4 := hid (show cellN ls g i k (r + 1) = cellN ls g i k r + if ls.getD r 0 = (i : Int) ∧ ((g r : Nat) : Int) = (k : Int) then 1 else 0 from rfl)
                  have q8 := cellN_bd ls g i k r
                  generalize cellN ls g i k r = cr at *
                  have hj : r < ls.length := by rw [HLS.out.1]; exact hltr
                  have hlv := hid (show (ls.map (Value.int .i64))[r]? = some (.int .i64 (ls.getD r 0)) by simp [hj])
                  have hbl : r < Bs.length := by have := HBL.out; rw [List.length_map] at this; omega
                  have hbv := hid (show (Bs.map (Value.int .i64))[r]? = some (.int .i64 ((g r : Nat) : Int)) by
                    rw [← hbest.out r hltr]; simp [hbl])
                  generalize ls.getD r 0 = lr at *
                  generalize g r = gr at *
                  have hlab1 := hlab.ext he
                  have hbc1 := hbc.ext he
                  by_cases c1 : lr = (i : Int)
                  · have d1 := beq_t c1
                    by_cases c2 : (gr : Int) = (k : Int)
                    · have d2 := beq_t c2
                      rw [Hid, if_pos ⟨c1, c2⟩] at hs4
                      have hs4 := hid hs4
                      clear c1 c2
                      go_wp2_with (first | ((with_reducible show wpList _ _ _ (Oper.mk _ (Op.indexAddr _ _ _) _ _ _ _ :: Oper.mk _ (Op.load _ _) _ _ _ _ :: _) _ _); refine wl_idxload rfl rfl rfl rfl (fun _ => rfl) rfl rfl hlab1 HLL.out (by omega) (by omega) ?_; intro u hu; rw [Int.toNat_natCast, hlv.out] at hu; cases hu) | ((with_reducible show wpList _ _ _ (Oper.mk _ (Op.indexAddr _ _ _) _ _ _ _ :: Oper.mk _ (Op.load _ _) _ _ _ _ :: _) _ _); refine wl_idxloadW rfl rfl (fun _ => rfl) rfl (fun _ => rfl) rfl rfl hbc1 HBL.out (by omega) (by omega) hbv.out ?_))
                      go_roundw
                      case rel => exact ⟨r + 1, by omega, by rw [hs4.out]; try rfl, by go_num, he⟩
                      case measure => simp [intOf]; omega
                    · have d2 := beq_f c2
                      rw [Hid, if_neg (fun h => c2 h.2)] at hs4
                      have hs4 := hid hs4
                      clear c1 c2
                      go_wp2_with (first | ((with_reducible show wpList _ _ _ (Oper.mk _ (Op.indexAddr _ _ _) _ _ _ _ :: Oper.mk _ (Op.load _ _) _ _ _ _ :: _) _ _); refine wl_idxload rfl rfl rfl rfl (fun _ => rfl) rfl rfl hlab1 HLL.out (by omega) (by omega) ?_; intro u hu; rw [Int.toNat_natCast, hlv.out] at hu; cases hu) | ((with_reducible show wpList _ _ _ (Oper.mk _ (Op.indexAddr _ _ _) _ _ _ _ :: Oper.mk _ (Op.load _ _) _ _ _ _ :: _) _ _); refine wl_idxloadW rfl rfl (fun _ => rfl) rfl (fun _ => rfl) rfl rfl hbc1 HBL.out (by omega) (by omega) hbv.out ?_))
                      go_roundw
                      case rel => exact ⟨r + 1, by omega, by rw [hs4.out, Int.add_zero]; try rfl, by go_num, he⟩
                      case measure => simp [intOf]; omega
                  · have d1 := beq_f c1
                    rw [Hid, if_neg (fun h => c1 h.1)] at hs4
                    have hs4 := hid hs4
                    clear c1
                    go_wp2_with (first | ((with_reducible show wpList _ _ _ (Oper.mk _ (Op.indexAddr _ _ _) _ _ _ _ :: Oper.mk _ (Op.load _ _) _ _ _ _ :: _) _ _); refine wl_idxload rfl rfl rfl rfl (fun _ => rfl) rfl rfl hlab1 HLL.out (by omega) (by omega) ?_; intro u hu; rw [Int.toNat_natCast, hlv.out] at hu; cases hu))
                    go_roundw
                    case rel => exact ⟨r + 1, by omega, by rw [hs4.out, Int.add_zero]; try rfl, by go_num, he⟩
                    case measure => simp [intOf]; omega
                · obtain rfl : R = r := by omega
                  rw [← HCk.out]
                  have htab1 := htab.ext he
                  have a3 := a2.ext he
                  have hv := hget.out k hltk
                  have HV := hid hv
                  clear hv
                  have hcki := hid (fun (h : i = k) => show CF i k = CF i i by subst h; rfl)
                  generalize CF i k = ck at *
                  have hcc := bne_f (rfl : ck = ck)
                  by_cases hik : i = k
                  · subst hik
                    have dd := beq_t (rfl : (i : Int) = (i : Int))
                    have hnl : ¬ i < i := by omega
                    go_wp2_with (first | ((with_reducible show wpList _ _ _ (Oper.mk _ (Op.indexAddr _ _ _) _ _ _ _ :: Oper.mk _ (Op.load _ _) _ _ _ _ :: _) _ _); refine wl_idxload rfl rfl rfl rfl (fun _ => rfl) rfl rfl htab1 HT2.out (by omega) (by omega) ?_; intro u hu; rw [Int.toNat_natCast, A1.out] at hu; cases hu) | ((with_reducible show wpList _ _ _ (Oper.mk _ (Op.indexAddr _ _ _) _ _ _ _ :: Oper.mk _ (Op.load _ _) _ _ _ _ :: _) _ _); refine wl_idxload rfl rfl rfl rfl (fun _ => rfl) rfl rfl a3 hmlen.out (by omega) (by omega) ?_; intro u hu; rw [Int.toNat_natCast, HV.out] at hu; cases hu))
                    go_roundw
                    case rel => exact ⟨i + 1, by omega, by rw [hs3.out, Int.add_assoc]; try rfl, by rw [hd1.out rfl, ← hcki.out rfl, Int.add_assoc]; try rfl, by go_num, he⟩
                    case measure => simp [intOf]; omega
                  · have dd := beq_f (show ¬ (i : Int) = (k : Int) by omega)
                    go_wp2_with (first | ((with_reducible show wpList _ _ _ (Oper.mk _ (Op.indexAddr _ _ _) _ _ _ _ :: Oper.mk _ (Op.load _ _) _ _ _ _ :: _) _ _); refine wl_idxload rfl rfl rfl rfl (fun _ => rfl) rfl rfl htab1 HT2.out (by omega) (by omega) ?_; intro u hu; rw [Int.toNat_natCast, A1.out] at hu; cases hu) | ((with_reducible show wpList _ _ _ (Oper.mk _ (Op.indexAddr _ _ _) _ _ _ _ :: Oper.mk _ (Op.load _ _) _ _ _ _ :: _) _ _); refine wl_idxload rfl rfl rfl rfl (fun _ => rfl) rfl rfl a3 hmlen.out (by omega) (by omega) ?_; intro u hu; rw [Int.toNat_natCast, HV.out] at hu; cases hu))
                    go_roundw
                    case rel => exact ⟨k + 1, by omega, by rw [hs3.out, Int.add_assoc]; try rfl, by rw [hd2.out hik], by go_num, he⟩
                    case measure => simp [intOf]; omega
            · obtain rfl : O = k := by omega
              rw [dOn_all hlt]
              go_wp2
              go_roundw
              case rel => exact ⟨i + 1, by omega, by rw [hs1.out], by rw [hs2.out], by go_num, he⟩
              case measure => simp [intOf]; omega
        · obtain rfl : O = i := by omega
          rw [HSUM.out, HDIAG.out]
          have f1 := beq_t (rfl : (R : Int) = (R : Int))
          have f2 := beq_t (rfl : H = H)
          go_wp2
          go_ret
          exact ⟨rfl, E.trans he⟩
end Go.Proofs.Ytlimabbeaimdgaa.lConfusion
