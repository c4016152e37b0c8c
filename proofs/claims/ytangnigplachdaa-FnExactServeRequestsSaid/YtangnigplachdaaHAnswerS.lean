/- The harness on lists: AnswerS. -/
import Derived.Test.YtangnigplachdaaKb
import Derived.Test.YtangnigplachdaaHAnswer
namespace Go.Proofs.Ytangnigplachdaa
set_option linter.unusedSimpArgs false
set_option linter.unusedVariables false
open Go.RowKit

abbrev shAnswerS : Sh := .sl shAnswer
instance slAnswerSimpl : SlTy Try.prog 84 167 3 (.agg #[.int .i64 0, .int .i64 0, .slice none 0 0]) 40 := ⟨by kernel_rfl, by kernel_rfl, by kernel_rfl, by decide, by decide⟩
instance szAnswerSimpl : SlTy Try.prog 84 167 (Sh.sz shAnswer) (.agg #[.int .i64 0, .int .i64 0, .slice none 0 0]) 40 := slAnswerSimpl
instance elAnswerSimpl : ElTy Try.prog 167 shAnswer := ⟨by kernel_rfl, by kernel_rfl⟩

set_option maxRecDepth 100000 in
set_option maxHeartbeats 1000000 in
theorem eqAnswerS_ok : EqOk 55 shAnswerS := by
  intro cs cs' l w hu hv hn
  obtain ⟨p, c, css, rfl, h2, h3, h4, h5, h6, h7⟩ := rep_sl hu
  obtain ⟨q, d, css', rfl, g2, g3, g4, g5, g6, g7⟩ := rep_sl hv
  have hle := Nat.le_trans (tot_len l) hn
  generalize hL : l.length = n at *
  have HL := hid hL
  clear hL
  simp only [ofCs, Sh.agg, List.headD_cons, Bool.false_eq_true, if_false]
  go_enter Try.func55, Try.ntmps55
  go_wp2
  go_loopw [5] (fun iv wr => ∃ i : Nat, i ≤ n ∧ iv = .int .i64 i ∧ Ext w wr) (fun iv _ => n - (intOf iv).toNat)
  case atStart => exact ⟨0, by omega, rfl, Ext.refl w⟩
  case round =>
    obtain ⟨i, hi, rfl, he⟩ := hrel
    by_cases hlt : i < n
    · have hp' := (h2.ext he).ext (Ext.drew wr)
      have hq' := (g2.ext he).ext (Ext.drew wr)
      have hil : i < l.length := by rw [HL.out]; exact hlt
      obtain ⟨ci, hci, ri⟩ := h5.get i l[i] (by simp)
      obtain ⟨di, hdi, si⟩ := g5.get i l[i] (by simp)
      have hs1 := h2.some_of h6 (by decide) (show 0 < css.length by omega)
      have hs2 := g2.some_of g6 (by decide) (show 0 < css'.length by omega)
      have hb := Nat.le_trans (Nat.le_trans (Nat.le_add_right _ _) (tot_get l i hil)) hn
      go_wp2_with fail
      refine wp_region_xall (F := fun _ _ u => u = .bool true) (by kernel_rfl) (by kernel_rfl) (by kernel_rfl) ?_
      intro wf hwf
      refine x_mv rfl rfl rfl ?_
      simp only [Act.put, ev_tmp, List.setIfInBounds_toArray, List.set_cons_succ, List.set_cons_zero, List.getD_cons_succ, List.getD_cons_zero]
      refine x_mv rfl rfl rfl ?_
      simp only [Act.put, ev_tmp, List.setIfInBounds_toArray, List.set_cons_succ, List.set_cons_zero, List.getD_cons_succ, List.getD_cons_zero]
      refine x_idxloadE (s := shAnswer) (j := i) rfl rfl (fun _ => rfl) rfl (fun _ => rfl) rfl rfl rfl hp' h6 h7 hlt hs1 hci ?_
      simp only [Act.put, ev_tmp, List.setIfInBounds_toArray, List.set_cons_succ, List.set_cons_zero, List.getD_cons_succ, List.getD_cons_zero]
      refine x_mv rfl rfl rfl ?_
      simp only [Act.put, ev_tmp, List.setIfInBounds_toArray, List.set_cons_succ, List.set_cons_zero, List.getD_cons_succ, List.getD_cons_zero]
      refine x_mv rfl rfl rfl ?_
      simp only [Act.put, ev_tmp, List.setIfInBounds_toArray, List.set_cons_succ, List.set_cons_zero, List.getD_cons_succ, List.getD_cons_zero]
      refine x_idxloadE (s := shAnswer) (j := i) rfl rfl (fun _ => rfl) rfl (fun _ => rfl) rfl rfl rfl hq' g6 g7 hlt hs2 hdi ?_
      simp only [Act.put, ev_tmp, List.setIfInBounds_toArray, List.set_cons_succ, List.set_cons_zero, List.getD_cons_succ, List.getD_cons_zero]
      refine x_callf (f := 122) (args := #[ofCs shAnswer ci, ofCs shAnswer di]) rfl rfl Try.func122 rfl (by kernel_rfl) (by simp [Act.eval]) (fun w1 hw1 => (eqAnswer_ok ci di l[i] w1 (((ri.ext he).ext (Ext.drew wr)).ext hw1) (((si.ext he).ext (Ext.drew wr)).ext hw1) hb).mono fun e w3 h => ⟨_, h.1, h.2, rfl⟩) ?_
      rintro u w3 _ _ rfl
      simp only [Act.put, ev_tmp, List.setIfInBounds_toArray, List.set_cons_succ, List.set_cons_zero, List.getD_cons_succ, List.getD_cons_zero]
      refine x_run rfl fun K hK w1 _ => ?_
      go_simp
      refine hK _ ?_
      clear hK K
      refine x_nil ?_
      have he' := (he.trans (Ext.drew wr)).trans hwf
      clear hwf hp' hq' he
      go_wp2
      go_roundw
      case rel => exact ⟨i + 1, by omega, by go_num, he'⟩
      case measure => simp [intOf]; omega
    · obtain rfl : i = n := by omega
      go_wp2
      go_ret
      exact ⟨rfl, he⟩



set_option maxRecDepth 100000 in
set_option maxHeartbeats 1000000 in
theorem markAnswerS_ok : MarkOk 58 shAnswerS := by
  intro cs l bs k w hu hnd hk0 hk
  obtain ⟨p, c, css0, bss, rfl, h2, h3, h4, h5, rfl⟩ := own_sl.1 hu
  have hle := Nat.le_trans h3 h4
  have hk' : k + 64 * (tot (.sl shAnswer) l : Int) ≤ 68719476736 := hk
  have h6 := h5.all
  have h7 := h5.1
  obtain ⟨nd1, nd2, nd3, nd4⟩ := nodup_split hnd
  generalize hL : l.length = n at *
  have HL := hid hL
  clear hL hu
  unfold maxLen at hle
  simp only [ofCs, Sh.agg, List.headD_cons, Bool.false_eq_true, if_false]
  go_enter Try.func58, Try.ntmps58
  go_wp2
  go_loopw [1, 5] (fun kv iv wr => ∃ (i : Nat) (css : List (List Value)), i ≤ n ∧ iv = .int .i64 i ∧ kv = .int .i64 (mkK shAnswer l k i) ∧ OwnRow wr p n c css.flatten ∧ Hid (OwnEs wr shAnswer css bss (mkTo shAnswer l k i)) ∧ Chg (fun b => b ∈ blocksOf p ++ bss.flatten) w wr) (fun _ iv _ => n - (intOf iv).toNat)
  case atStart => exact ⟨0, css0, by omega, rfl, by rw [mkK_zero], h2, by rw [mkTo_zero]; exact h5, Chg.refl _ _⟩
  case round =>
    clear h2 h5 h6 h7
    obtain ⟨i, css, hi, rfl, rfl, own0, H5, hch⟩ := hrel
    have h6 := H5.out.all
    have h7 : css.length = n := by have := H5.out.1; rw [length_mkTo, HL.out] at this; exact this
    by_cases hlt : i < n
    · have hil : i < l.length := by rw [HL.out]; exact hlt
      obtain ⟨b1, b2⟩ := mkK_bd shAnswer (by decide) l k i hil
      obtain ⟨k1, k2⟩ := mk_succ shAnswer l k i hil
      have hbl : bss.length = n := by have := H5.out.2.1; rw [length_mkTo, HL.out] at this; exact this
      have hci : css[i]? = some css[i] := by simp
      have hbi : bss[i]? = some bss[i] := by simp
      have ow := H5.out.2.2 i css[i] bss[i] l[i] hci hbi (mkTo_get _ _ _ _ hil)
      have hs1 := own0.cs.some_of h6 (by decide) (show 0 < css.length by omega)
      have ndi := flat_nodup nd2 hbi
      have hin : ∀ b ∈ bss[i], b ∈ bss.flatten := fun b hb => List.mem_flatten.2 ⟨_, List.getElem_mem _, hb⟩
      have hap : ∀ j bj, j ≠ i → bss[j]? = some bj → ∀ b ∈ bj, b ∉ bss[i] := fun j bj hj hbj => flat_apart nd2 hbi hbj hj
      have K1 := hid k1
      have K2 := hid k2
      clear k1 k2
      generalize css[i] = ci at *
      generalize bss[i] = bi at *
      generalize l[i] = d at *
      generalize mkK shAnswer l k i = ki at *
      obtain ⟨a1, a2, a3, au⟩ := d
      obtain ⟨_, _, _, _, rfl, ⟨rfl, rfl⟩, ⟨_, _, _, _, rfl, ⟨rfl, rfl⟩, ⟨_, _, ba3, _, rfl, owa3, ⟨rfl, rfl⟩, rfl⟩, rfl⟩, rfl⟩ := ow
      obtain ⟨pa3, ca3, rfl, hla3⟩ := rep_val owa3.rep
      simp only [List.cons_append, List.nil_append, List.append_nil] at hci hbi ndi hin hap
      have nd_1 := ndi
      have in_1 : ∀ b ∈ ba3, b ∈ bss.flatten := fun b hb => hin b (by simp [hb])
      have B1 := fun kk => mkV_bd (.sl .flt) (by decide) a3 kk
      have htot : tot shAnswer (a1, a2, a3, au) = tot (.sl .flt) a3 := by simp only [tot]; omega
      rw [htot] at b2
      clear htot
      have hset : css.set i [.int .i64 a1, .int .i64 a2, .slice pa3 (List.length a3) ca3] = css := by
        obtain ⟨hi9, he9⟩ := List.getElem?_eq_some_iff.1 hci
        rw [← he9]; exact List.set_getElem_self _
      have own_0 : OwnRow wr p n c (css.set i [.int .i64 a1, .int .i64 a2, .slice pa3 (List.length a3) ca3]).flatten := by rw [hset]; exact own0
      have owa3_0 := owa3
      have hall_0 : ∀ x ∈ css.set i [.int .i64 a1, .int .i64 a2, .slice pa3 (List.length a3) ca3], x.length = Sh.sz shAnswer := all_set h6 rfl
      have hlen_0 : (css.set i [.int .i64 a1, .int .i64 a2, .slice pa3 (List.length a3) ca3]).length = n := (by rw [List.length_set]; exact h7)
      have hget_0 : (css.set i [.int .i64 a1, .int .i64 a2, .slice pa3 (List.length a3) ca3])[i]? = some [.int .i64 a1, .int .i64 a2, .slice pa3 (List.length a3) ca3] := List.getElem?_set_self (by omega)
      go_wp2_with (first
        | ((with_reducible (show wpList _ _ _ (Oper.mk _ (Op.indexAddr _ _ _) _ _ _ _ :: Oper.mk _ (Op.fieldAddr _ _ _) _ _ _ _ :: _) _ _)); refine wl_stField (f := 0) (off := 0) (j := i) (u := .int .i64 (ki)) rfl rfl rfl rfl rfl rfl (fun _ => rfl) (fun _ _ => rfl) fo_implAnswer_0 rfl rfl rfl (fun _ _ => rfl) rfl own_0 hall_0 hlen_0 hlt (by decide) hget_0 ?_; intro w1 own_1' ch1; have own_1 : OwnRow w1 p n c (css.set i [.int .i64 (ki), .int .i64 a2, .slice pa3 (List.length a3) ca3]).flatten := (by first | exact own_1' | (rw [List.set_set] at own_1'; exact own_1')); have owa3_1 := owa3_0.chg ch1 (fun b hb h => nd4 b (in_1 b hb) h); have hall_1 : ∀ x ∈ css.set i [.int .i64 (ki), .int .i64 a2, .slice pa3 (List.length a3) ca3], x.length = Sh.sz shAnswer := all_set h6 rfl; have hlen_1 : (css.set i [.int .i64 (ki), .int .i64 a2, .slice pa3 (List.length a3) ca3]).length = n := (by rw [List.length_set]; exact h7); have hget_1 : (css.set i [.int .i64 (ki), .int .i64 a2, .slice pa3 (List.length a3) ca3])[i]? = some [.int .i64 (ki), .int .i64 a2, .slice pa3 (List.length a3) ca3] := List.getElem?_set_self (by omega))
        | ((with_reducible (show wpList _ _ _ (Oper.mk _ (Op.indexAddr _ _ _) _ _ _ _ :: Oper.mk _ (Op.fieldAddr _ _ _) _ _ _ _ :: _) _ _)); refine wl_stField (f := 1) (off := 1) (j := i) (u := .int .i64 (ki + 1)) rfl rfl rfl rfl rfl rfl (fun _ => rfl) (fun _ _ => rfl) fo_implAnswer_1 rfl rfl rfl (fun _ _ => rfl) rfl own_1 hall_1 hlen_1 hlt (by decide) hget_1 ?_; intro w2 own_2' ch2; have own_2 : OwnRow w2 p n c (css.set i [.int .i64 (ki), .int .i64 (ki + 1), .slice pa3 (List.length a3) ca3]).flatten := (by first | exact own_2' | (rw [List.set_set] at own_2'; exact own_2')); have owa3_2 := owa3_1.chg ch2 (fun b hb h => nd4 b (in_1 b hb) h); have hall_2 : ∀ x ∈ css.set i [.int .i64 (ki), .int .i64 (ki + 1), .slice pa3 (List.length a3) ca3], x.length = Sh.sz shAnswer := all_set h6 rfl; have hlen_2 : (css.set i [.int .i64 (ki), .int .i64 (ki + 1), .slice pa3 (List.length a3) ca3]).length = n := (by rw [List.length_set]; exact h7); have hget_2 : (css.set i [.int .i64 (ki), .int .i64 (ki + 1), .slice pa3 (List.length a3) ca3])[i]? = some [.int .i64 (ki), .int .i64 (ki + 1), .slice pa3 (List.length a3) ca3] := List.getElem?_set_self (by omega))
        | ((with_reducible (show wpList _ _ _ (Oper.mk _ (Op.indexAddr _ _ _) _ _ _ _ :: Oper.mk _ (Op.fieldAddr _ _ _) _ _ _ _ :: _) _ _)); refine wl_ldField (f := 2) (off := 2) (j := i) rfl rfl rfl rfl rfl rfl (fun _ => rfl) (fun _ _ => rfl) fo_implAnswer_2 rfl rfl rfl own_2.cs hall_2 hlen_2 hlt hs1 hget_2 rfl ?_)
        )
      have Bq1 := B1 (ki + 1 + 1)
      obtain ⟨kz1, hkz1⟩ : ∃ z, z = (mkV (.sl .flt) a3 (ki + 1 + 1)).2 := ⟨_, rfl⟩
      rw [← hkz1] at Bq1
      have HZ1 := hid hkz1
      clear hkz1
      refine (markFloat32S_ok [.slice pa3 (List.length a3) ca3] a3 ba3 (ki + 1 + 1) _ owa3_2 nd_1 (by omega) (by omega)).mono ?_
      rintro e w3 ⟨rfl, owa3_3, ch3⟩
      rw [← HZ1.out]
      have own_3 := own_2.chg ch3 (fun b hb h => nd3 b hb (in_1 b h))
      have hz1 : 0 ≤ kz1 := by omega
      have hall_3 : ∀ x ∈ css.set i [.int .i64 (ki), .int .i64 (ki + 1), .slice pa3 (List.length a3) ca3], x.length = Sh.sz shAnswer := all_set h6 rfl
      have hlen_3 : (css.set i [.int .i64 (ki), .int .i64 (ki + 1), .slice pa3 (List.length a3) ca3]).length = n := (by rw [List.length_set]; exact h7)
      have hget_3 : (css.set i [.int .i64 (ki), .int .i64 (ki + 1), .slice pa3 (List.length a3) ca3])[i]? = some [.int .i64 (ki), .int .i64 (ki + 1), .slice pa3 (List.length a3) ca3] := List.getElem?_set_self (by omega)
      have ow9 : Own w3 shAnswer [.int .i64 (ki), .int .i64 (ki + 1), .slice pa3 (List.length a3) ca3] (mkE shAnswer (a1, a2, a3, au) ki).1 ([] ++ ([] ++ (ba3 ++ ([])))) := by
        have g1 := HZ1.out; subst g1
        exact ⟨[.int .i64 (ki)], [.int .i64 (ki + 1), .slice pa3 (List.length a3) ca3], [], ([] ++ (ba3 ++ ([]))), rfl, ⟨rfl, rfl⟩, ⟨[.int .i64 (ki + 1)], [.slice pa3 (List.length a3) ca3], [], (ba3 ++ ([])), rfl, ⟨rfl, rfl⟩, ⟨[.slice pa3 (List.length a3) ca3], [], ba3, ([]), rfl, owa3_3, ⟨rfl, rfl⟩, rfl⟩, rfl⟩, rfl⟩
      simp only [List.nil_append, List.append_nil] at ow9
      have chT : Chg (fun b => b ∈ blocksOf p ++ (ba3)) wr w3 := Chg.trans (Chg.trans ((ch1.mono fun b hb => List.mem_append.2 (.inl hb))) (ch2.mono fun b hb => List.mem_append.2 (.inl hb))) (ch3.mono fun b hb => List.mem_append.2 (.inr (by simp [hb])))
      have es2 := H5.out.upd chT hbi (fun j bj hj hbj b hb hx => by
        rcases List.mem_append.1 hx with hx | hx
        · exact nd4 b (List.mem_flatten.2 ⟨bj, List.mem_of_getElem? hbj, hb⟩) hx
        · exact hap j bj hj hbj b hb hx) ow9
      have hc2 := hch.trans (chT.mono fun b hb => by
        rcases List.mem_append.1 hb with hx | hx
        · exact List.mem_append.2 (.inl hx)
        · exact List.mem_append.2 (.inr (hin b hx)))
      go_wp2
      go_roundw
      case rel => exact ⟨i + 1, _, by omega, by go_num, by rw [K1.out, HZ1.out]; rfl, own_3, by rw [K2.out]; exact es2, hc2⟩
      case measure => simp [intOf]; omega
    · obtain rfl : i = n := by omega
      go_wp2
      go_ret
      have k1 := HL.out
      have k3 : mkTo shAnswer l k i = (mkV shAnswerS l k).1 := by rw [← k1]; exact mkTo_all _ l k
      have k4 : mkK shAnswer l k i = (mkV shAnswerS l k).2 := by rw [← k1]; exact mkK_all _ l k
      have k5 : (mkV shAnswerS l k).1.length = i := by rw [← k3, length_mkTo]; exact k1
      refine ⟨by rw [k4]; rfl, own_sl.2 ⟨p, c, css, bss, ?_, by rw [k5]; exact own0, by rw [k5]; exact h3, h4, by rw [← k3]; exact H5.out, rfl⟩, hch⟩
      rw [k5]

set_option maxRecDepth 100000 in
set_option maxHeartbeats 1000000 in
theorem heldAnswerS_ok : HeldOk 59 shAnswerS := by
  intro cs l k w hu hk0 hk
  have hm : (mkV shAnswerS l k).1.length = l.length := length_carry _ l k
  obtain ⟨p, c, css, rfl, h2, h3, h4, h5, h6, h7⟩ := rep_sl hu
  have hle := Nat.le_trans h3 h4
  have hk' : k + 64 * (tot (.sl shAnswer) l : Int) ≤ 68719476736 := hk
  rw [hm] at h3 hle h7 ⊢
  generalize hL : l.length = n at *
  have HL := hid hL
  clear hL hu
  unfold maxLen at hle
  simp only [ofCs, Sh.agg, List.headD_cons, Bool.false_eq_true, if_false]
  go_enter Try.func59, Try.ntmps59
  go_wp2
  go_loopw [1, 5] (fun kv iv wr => ∃ i : Nat, i ≤ n ∧ iv = .int .i64 i ∧ kv = .int .i64 (mkK shAnswer l k i) ∧ Ext w wr) (fun _ iv _ => n - (intOf iv).toNat)
  case atStart => exact ⟨0, by omega, rfl, by rw [mkK_zero], Ext.refl _⟩
  case round =>
    obtain ⟨i, hi, rfl, rfl, he⟩ := hrel
    by_cases hlt : i < n
    · have hil : i < l.length := by rw [HL.out]; exact hlt
      obtain ⟨b1, b2⟩ := mkK_bd shAnswer (by decide) l k i hil
      obtain ⟨k1, _⟩ := mk_succ shAnswer l k i hil
      obtain ⟨ci, hci, ri⟩ := h5.get i _ (mkV_get shAnswer l k i hil)
      have hs1 := h2.some_of h6 (by decide) (show 0 < css.length by omega)
      have hp0 := h2.ext he
      have K1 := hid k1
      clear k1
      generalize l[i] = d at *
      generalize mkK shAnswer l k i = ki at *
      obtain ⟨a1, a2, a3, au⟩ := d
      obtain ⟨kz1, hkz1⟩ : ∃ z, z = (mkV (.sl .flt) a3 (ki + 1 + 1)).2 := ⟨_, rfl⟩
      have ri0 : Rep w shAnswer ci ((ki), (ki + 1), (mkV (.sl .flt) a3 (ki + 1 + 1)).1, au) := by (try subst hkz1); exact ri
      clear ri
      obtain ⟨_, _, rfl, rfl, _, _, rfl, rfl, _, _, rfl, ha3, rfl⟩ := ri0
      obtain ⟨pa3, ca3, rfl, hla3⟩ := rep_val ha3
      simp only [List.cons_append, List.nil_append, List.append_nil] at hci
      have htot : tot shAnswer (a1, a2, a3, au) = tot (.sl .flt) a3 := by simp only [tot]; omega
      rw [htot] at b2
      clear htot
      have B1 := mkV_bd (.sl .flt) (by decide) a3 (ki + 1 + 1)
      rw [← hkz1] at B1
      have hz1 : 0 ≤ kz1 := by omega
      have HZ1 := hid hkz1
      clear hkz1
      generalize hna3 : List.length (mkV (.sl .flt) a3 (ki + 1 + 1)).1 = na3 at *
      go_wp2_with (first
        | ((with_reducible (show wpList _ _ _ (Oper.mk _ (Op.indexAddr _ _ _) _ _ _ _ :: Oper.mk _ (Op.fieldAddr _ _ _) _ _ _ _ :: _) _ _)); refine wl_ldField (f := 0) (off := 0) (j := i) rfl rfl rfl rfl rfl rfl (fun _ => rfl) (fun _ _ => rfl) fo_implAnswer_0 rfl rfl rfl (h2.ext he) h6 h7 hlt hs1 hci rfl ?_)
        | ((with_reducible (show wpList _ _ _ (Oper.mk _ (Op.indexAddr _ _ _) _ _ _ _ :: Oper.mk _ (Op.fieldAddr _ _ _) _ _ _ _ :: _) _ _)); refine wl_ldField (f := 1) (off := 1) (j := i) rfl rfl rfl rfl rfl rfl (fun _ => rfl) (fun _ _ => rfl) fo_implAnswer_1 rfl rfl rfl (h2.ext he) h6 h7 hlt hs1 hci rfl ?_)
        | ((with_reducible (show wpList _ _ _ (Oper.mk _ (Op.indexAddr _ _ _) _ _ _ _ :: Oper.mk _ (Op.fieldAddr _ _ _) _ _ _ _ :: _) _ _)); refine wl_ldField (f := 2) (off := 2) (j := i) rfl rfl rfl rfl rfl rfl (fun _ => rfl) (fun _ _ => rfl) fo_implAnswer_2 rfl rfl rfl (h2.ext he) h6 h7 hlt hs1 hci rfl ?_)
        )
      refine (heldFloat32S_ok [.slice pa3 na3 ca3] a3 (ki + 1 + 1) _ (Rep.ext he ha3) (by omega) (by omega)).mono ?_
      rintro e w1 ⟨rfl, e1⟩
      rw [← HZ1.out]
      go_wp2
      go_roundw
      case rel => exact ⟨i + 1, by omega, by go_num, by rw [K1.out, HZ1.out]; rfl, (he.trans e1)⟩
      case measure => simp [intOf]; omega
    · obtain rfl : i = n := by omega
      go_wp2
      go_ret
      have k1 := HL.out
      have k4 : mkK shAnswer l k i = (mkV shAnswerS l k).2 := by rw [← k1]; exact mkK_all _ l k
      exact ⟨by rw [k4]; rfl, he⟩
end Go.Proofs.Ytangnigplachdaa
