/- Models: which are valid. -/
import Derived.Test.YtnlhahlegedlaaaLay2
import Derived.Test.YtnlhahlegedlaaaAgg
import Derived.Test.YtnlhahlegedlaaaFcell
import Derived.Test.YtnlhahlegedlaaaHModel
namespace Go.Proofs.Ytnlhahlegedlaaa
set_option linter.unusedSimpArgs false
set_option linter.unusedVariables false
open Go.RowKit

def layD (d : shLayer.T) : Bool := layB d.1 d.2.1 d.2.2.1 d.2.2.2.1.length d.2.2.2.2.1.length
def layO (d : shLayer.T) : Int := d.2.2.1
def linkL : Option Int → Int → Bool
  | none, _ => true
  | some o, i => decide (i = o)
def modGo : Option Int → List shLayer.T → Bool
  | _, [] => true
  | p, d :: l => layD d && (linkL p d.2.1 && modGo (some (layO d)) l)
def modB (l : List shLayer.T) : Bool := decide (1 ≤ l.length) && (decide (l.length ≤ 6) && modGo none l)
/-- What comes out of the step before. -/
def prevL (l : List shLayer.T) : Nat → Option Int
  | 0 => none
  | i + 1 => l[i]?.map layO
theorem modGo_at {l : List shLayer.T} {i : Nat} (hi : i < l.length) (p : Option Int) :
    modGo p (l.drop i) = (layD l[i] && (linkL p l[i].2.1 && modGo (prevL l (i + 1)) (l.drop (i + 1)))) := by
  rw [List.drop_eq_getElem_cons hi]
  simp [modGo, prevL, hi]

/-- The cells of a layer, one by one. -/
theorem lay_vals {w : World} {cs : List Value} {d : shLayer.T} (h : Rep w shLayer cs d) : ∃ pw cw pb cb, cs = [.int .i64 d.1, .int .i64 d.2.1, .int .i64 d.2.2.1, .slice pw d.2.2.2.1.length cw, .slice pb d.2.2.2.2.1.length cb] ∧ d.2.2.2.1.length ≤ maxLen ∧ d.2.2.2.2.1.length ≤ maxLen := by
  obtain ⟨a1, a2, a3, a4, a5, au⟩ := d
  obtain ⟨_, _, rfl, rfl, _, _, rfl, rfl, _, _, rfl, rfl, _, _, rfl, h4, _, _, rfl, h5, rfl⟩ := h
  obtain ⟨p4, c4, rfl, l4⟩ := rep_val h4
  obtain ⟨p5, c5, rfl, l5⟩ := rep_val h5
  exact ⟨p4, c4, p5, c5, rfl, l4, l5⟩

set_option maxRecDepth 100000 in
set_option maxHeartbeats 4000000 in
theorem l03Is_any {sp : Option Nat} (bl o' : Nat) (p : Option Addr) (n c : Nat) (l : List shLayer.T) (css : List (List Value)) (w : World) (f0 : w.cell? ⟨bl, o', sp⟩ = some (.slice p n c)) (hn : l.length = n) (hm : n ≤ maxLen)
    (a2 : Cs w p css.flatten) (a5 : All2 (Rep w shLayer) css l) (a6 : ∀ c ∈ css, c.length = shLayer.sz) (a7 : css.length = n) :
    Calls Try.prog 111 #[.pointer (some ⟨bl, o', sp⟩)] w (RetB w (modB l)) := by
  unfold maxLen at hm
  unfold modB
  rw [hn]
  by_cases hn1 : 1 ≤ n
  rotate_left 1
  · rw [decide_eq_false hn1, Bool.false_and]
    clear a2 a5 a6 a7 hn
    go_enter Try.func111, Try.ntmps111
    go_wp2
    go_ret
    exact ⟨rfl, Ext.refl _⟩
  by_cases hn6 : n ≤ 6
  rotate_left 1
  · rw [decide_eq_false hn6, Bool.false_and, Bool.and_false]
    clear a2 a5 a6 a7 hn
    go_enter Try.func111, Try.ntmps111
    go_wp2
    go_ret
    exact ⟨rfl, Ext.refl _⟩
  rw [decide_eq_true hn1, decide_eq_true hn6, Bool.true_and, Bool.true_and]
  generalize hG : modGo none l = G
  have HG := hid hG
  have HL := hid hn
  clear hG
  go_enter Try.func111, Try.ntmps111
  go_wp2
  go_loopw [4] (fun iv wr => ∃ (i : Nat), i ≤ n ∧ iv = .int .i64 i ∧ Hid (modGo (prevL l i) (l.drop i) = G) ∧ Ext w wr) (fun iv _ => n - (intOf iv).toNat)
  case atStart => exact ⟨0, by omega, rfl, by simpa [Hid, prevL] using HG.out, Ext.refl w⟩
  case round =>
    obtain ⟨i, hi, rfl, HI, he⟩ := hrel
    have g0 := he.cell f0
    by_cases hlt : i < n
    · have hil : i < l.length := by rw [HL.out]; exact hlt
      obtain ⟨ci, hci, ri⟩ := a5.get i l[i] (by simp)
      obtain ⟨pw, cw, pb, cb, rfl, l1, l2⟩ := lay_vals ri
      have hst := HI.out
      rw [modGo_at hil] at hst
      have hs1 := a2.some_of a6 (by decide) (show 0 < css.length by omega)
      have hp := a2.ext he
      have C := hid (fun w1 (hw1 : Ext wr w1) => calls_retB (l03Layer_any (sp := (adr p (i * 5)).spot) (adr p (i * 5)).block (adr p (i * 5)).off _ _ _ pw pb _ cw _ cb w1 (fcell hp a6 a7 hlt hci 0 hw1 rfl) (fcell hp a6 a7 hlt hci 1 hw1 rfl) (fcell hp a6 a7 hlt hci 2 hw1 rfl) (fcell hp a6 a7 hlt hci 3 hw1 rfl) (fcell hp a6 a7 hlt hci 4 hw1 rfl) l1 l2))
      generalize hD : l[i] = d at *
      have HD := hid hD
      clear hD
      cases hb : layD d
      · have hG : G = false := by rw [← hst, hb]; rfl
        subst hG
        unfold layD at hb
        rw [hb] at C
        clear hb hst
        obtain ⟨F, hF⟩ : ∃ F : Option Tmp → World → Value → Prop, F = fun _ _ u => u = .bool false := ⟨_, rfl⟩
        have HF := hid hF
        have gd := (Ext.drew wr).cell g0
        have hpd := hp.ext (Ext.drew wr)
        clear hF
        go_wp2
        refine wp_region_xall (F := F) (by kernel_rfl) (by kernel_rfl) (by kernel_rfl) ?_
        intro wf hwf
        repeat (first
          | (refine x_skip rfl ?_; simp only [Act.put, ev_tmp, List.setIfInBounds_toArray, List.set_cons_succ, List.set_cons_zero, List.getD_cons_succ, List.getD_cons_zero])
          | (refine x_mv rfl rfl rfl ?_; simp only [Act.put, ev_tmp, List.setIfInBounds_toArray, List.set_cons_succ, List.set_cons_zero, List.getD_cons_succ, List.getD_cons_zero])
          | (refine x_as rfl rfl rfl ?_; simp only [Act.put, ev_tmp, List.setIfInBounds_toArray, List.set_cons_succ, List.set_cons_zero, List.getD_cons_succ, List.getD_cons_zero])
          | ((with_reducible show wpX _ _ _ _ _ _ (Oper.mk _ (Op.indexAddr _ _ _) _ _ _ _ :: _) _); refine x_idx (t := 33) (s := 5) (i := (i : Int)) rfl rfl rfl rfl hs1 (by omega) (by omega) ?_; rw [Int.toNat_natCast]; simp only [Act.put, ev_tmp, List.setIfInBounds_toArray, List.set_cons_succ, List.set_cons_zero, List.getD_cons_succ, List.getD_cons_zero])
          | ((with_reducible show wpX _ _ _ _ _ _ (Oper.mk _ (Op.call _) _ _ _ _ :: _) _); refine x_callf (f := 106) (args := #[.pointer (some (adr p (i * 5)))]) rfl rfl Try.func106 rfl (by kernel_rfl) ?_ ?_ ?_; (focus (simp [Act.eval]; done)); (focus (intro w1 hw1; exact (by rw [HF.out]; exact C.out w1 (((Ext.drew _).trans hw1))))); rintro u w3 e3 e4 hu; simp only [HF.out] at hu; subst hu; simp only [Act.put, ev_tmp, List.setIfInBounds_toArray, List.set_cons_succ, List.set_cons_zero, List.getD_cons_succ, List.getD_cons_zero])
          | (refine x_run rfl fun K hK w1 hw1 => ?_; have k0 := hw1.cell (gd); go_simp; refine hK _ ?_; clear hK K k0 hw1 w1))
        refine x_nil ?_
        go_wp2
        go_ret
        exact ⟨rfl, (he.trans (Ext.drew _)).trans hwf⟩
      have hb2 := hb
      unfold layD at hb2
      rw [hb2] at C
      rw [hb, Bool.true_and] at hst
      clear hb hb2
      rcases Nat.eq_zero_or_pos i with h0 | h0
      · subst h0
        have hst2 : modGo (prevL l 1) (l.drop 1) = G := by rw [← hst]; simp [linkL, prevL]
        have Hst := hid hst2
        clear hst hst2
        obtain ⟨F, hF⟩ : ∃ F : Option Tmp → World → Value → Prop, F = fun _ _ u => u = .bool true := ⟨_, rfl⟩
        have HF := hid hF
        have gd := (Ext.drew wr).cell g0
        have hpd := hp.ext (Ext.drew wr)
        clear hF
        go_wp2
        refine wp_region_xall (F := F) (by kernel_rfl) (by kernel_rfl) (by kernel_rfl) ?_
        intro wf hwf
        repeat (first
          | (refine x_skip rfl ?_; simp only [Act.put, ev_tmp, List.setIfInBounds_toArray, List.set_cons_succ, List.set_cons_zero, List.getD_cons_succ, List.getD_cons_zero])
          | (refine x_mv rfl rfl rfl ?_; simp only [Act.put, ev_tmp, List.setIfInBounds_toArray, List.set_cons_succ, List.set_cons_zero, List.getD_cons_succ, List.getD_cons_zero])
          | (refine x_as rfl rfl rfl ?_; simp only [Act.put, ev_tmp, List.setIfInBounds_toArray, List.set_cons_succ, List.set_cons_zero, List.getD_cons_succ, List.getD_cons_zero])
          | ((with_reducible show wpX _ _ _ _ _ _ (Oper.mk _ (Op.indexAddr _ _ _) _ _ _ _ :: _) _); refine x_idx (t := 33) (s := 5) (i := ((0 : Nat) : Int)) rfl rfl rfl rfl hs1 (by omega) (by omega) ?_; rw [Int.toNat_natCast]; simp only [Act.put, ev_tmp, List.setIfInBounds_toArray, List.set_cons_succ, List.set_cons_zero, List.getD_cons_succ, List.getD_cons_zero])
          | ((with_reducible show wpX _ _ _ _ _ _ (Oper.mk _ (Op.call _) _ _ _ _ :: _) _); refine x_callf (f := 106) (args := #[.pointer (some (adr p (0 * 5)))]) rfl rfl Try.func106 rfl (by kernel_rfl) ?_ ?_ ?_; (focus (simp [Act.eval]; done)); (focus (intro w1 hw1; exact (by rw [HF.out]; exact C.out w1 (((Ext.drew _).trans hw1))))); rintro u w3 e3 e4 hu; simp only [HF.out] at hu; subst hu; simp only [Act.put, ev_tmp, List.setIfInBounds_toArray, List.set_cons_succ, List.set_cons_zero, List.getD_cons_succ, List.getD_cons_zero])
          | (refine x_run rfl fun K hK w1 hw1 => ?_; have k0 := hw1.cell (gd); go_simp; refine hK _ ?_; clear hK K k0 hw1 w1))
        refine x_nil ?_
        go_wp2
        go_roundw
        case rel => exact ⟨1, by omega, by go_num, Hst.out, (he.trans (Ext.drew _)).trans hwf⟩
        case measure => simp [intOf]; omega
      · obtain ⟨j, rfl⟩ : ∃ j, i = j + 1 := ⟨i - 1, by omega⟩
        obtain ⟨cj, hcj, rj⟩ := a5.get j l[j] (by simp)
        obtain ⟨qw, dw, qb, db, rfl, _, _⟩ := lay_vals rj
        have hlk : linkL (prevL l (j + 1)) d.2.1 = decide (d.2.1 = layO l[j]) := by simp [prevL, linkL, show j < l.length by omega]
        rw [hlk] at hst
        have hA : IntKind.i64.wrap (((j + 1 : Nat) : Int) - 1) = (j : Int) := by rw [show ((j + 1 : Nat) : Int) - 1 = (j : Int) by omega]; exact wrap_in _ (by omega) (by omega)
        have hB : IntKind.i64.wrap ((j : Int) + 1 - 1) = (j : Int) := by rw [show (j : Int) + 1 - 1 = (j : Int) by omega]; exact wrap_in _ (by omega) (by omega)
        have hC : IntKind.i64.wrap (j : Int) = (j : Int) := wrap_in _ (by omega) (by omega)
        clear hlk
        by_cases hq : d.2.1 = layO l[j]
        · have hst2 : modGo (prevL l (j + 1 + 1)) (l.drop (j + 1 + 1)) = G := by rw [← hst]; simp [hq]
          have Hst := hid hst2
          have Q := bne_f hq.symm
          unfold layO at Q
          clear hst hst2 hq
          obtain ⟨F, hF⟩ : ∃ F : Option Tmp → World → Value → Prop, F = fun _ _ u => u = .bool true := ⟨_, rfl⟩
          have HF := hid hF
          have gd := (Ext.drew wr).cell g0
          have hpd := hp.ext (Ext.drew wr)
          clear hF
          go_wp2
          refine wp_region_xall (F := F) (by kernel_rfl) (by kernel_rfl) (by kernel_rfl) ?_
          intro wf hwf
          repeat (first
            | (refine x_skip rfl ?_; simp only [Act.put, ev_tmp, List.setIfInBounds_toArray, List.set_cons_succ, List.set_cons_zero, List.getD_cons_succ, List.getD_cons_zero])
            | (refine x_mv rfl rfl rfl ?_; simp only [Act.put, ev_tmp, List.setIfInBounds_toArray, List.set_cons_succ, List.set_cons_zero, List.getD_cons_succ, List.getD_cons_zero])
            | (refine x_as rfl rfl rfl ?_; simp only [Act.put, ev_tmp, List.setIfInBounds_toArray, List.set_cons_succ, List.set_cons_zero, List.getD_cons_succ, List.getD_cons_zero])
            | ((with_reducible show wpX _ _ _ _ _ _ (Oper.mk _ (Op.indexAddr _ _ _) _ _ _ _ :: Oper.mk _ (Op.fieldAddr _ _ _) _ _ _ _ :: Oper.mk _ (Op.load _ _) _ _ _ _ :: _) _); refine x_ldField (f := 2) (j := j) (off := 2) rfl rfl (fun _ => rfl) rfl (fun _ _ => rfl) rfl (fun _ => rfl) (fun _ _ => rfl) fo_implLayer_2 rfl rfl (by omega) hpd a6 a7 (by omega) hs1 hcj rfl ?_; simp only [Act.put, ev_tmp, List.setIfInBounds_toArray, List.set_cons_succ, List.set_cons_zero, List.getD_cons_succ, List.getD_cons_zero])
            | ((with_reducible show wpX _ _ _ _ _ _ (Oper.mk _ (Op.indexAddr _ _ _) _ _ _ _ :: Oper.mk _ (Op.fieldAddr _ _ _) _ _ _ _ :: Oper.mk _ (Op.load _ _) _ _ _ _ :: _) _); refine x_ldField (f := 1) (j := (j + 1)) (off := 1) rfl rfl (fun _ => rfl) rfl (fun _ _ => rfl) rfl (fun _ => rfl) (fun _ _ => rfl) fo_implLayer_1 rfl rfl (by omega) hpd a6 a7 hlt hs1 hci rfl ?_; simp only [Act.put, ev_tmp, List.setIfInBounds_toArray, List.set_cons_succ, List.set_cons_zero, List.getD_cons_succ, List.getD_cons_zero])
            | ((with_reducible show wpX _ _ _ _ _ _ (Oper.mk _ (Op.indexAddr _ _ _) _ _ _ _ :: _) _); refine x_idx (t := 33) (s := 5) (i := ((j + 1 : Nat) : Int)) rfl rfl rfl rfl hs1 (by omega) (by omega) ?_; rw [Int.toNat_natCast]; simp only [Act.put, ev_tmp, List.setIfInBounds_toArray, List.set_cons_succ, List.set_cons_zero, List.getD_cons_succ, List.getD_cons_zero])
            | ((with_reducible show wpX _ _ _ _ _ _ (Oper.mk _ (Op.call _) _ _ _ _ :: _) _); refine x_callf (f := 106) (args := #[.pointer (some (adr p ((j + 1) * 5)))]) rfl rfl Try.func106 rfl (by kernel_rfl) ?_ ?_ ?_; (focus (simp [Act.eval]; done)); (focus (intro w1 hw1; exact (by rw [HF.out]; exact C.out w1 (((Ext.drew _).trans hw1))))); rintro u w3 e3 e4 hu; simp only [HF.out] at hu; subst hu; simp only [Act.put, ev_tmp, List.setIfInBounds_toArray, List.set_cons_succ, List.set_cons_zero, List.getD_cons_succ, List.getD_cons_zero])
            | (refine x_run rfl fun K hK w1 hw1 => ?_; have k0 := hw1.cell (gd); go_simp; refine hK _ ?_; clear hK K k0 hw1 w1))
          refine x_nil ?_
          go_wp2
          go_roundw
          case rel => exact ⟨j + 1 + 1, by omega, by go_num, Hst.out, (he.trans (Ext.drew _)).trans hwf⟩
          case measure => simp [intOf]; omega
        · have hG : G = false := by rw [← hst]; simp [hq]
          subst hG
          have Q := bne_t (fun h => hq h.symm)
          unfold layO at Q
          clear hst hq
          obtain ⟨F, hF⟩ : ∃ F : Option Tmp → World → Value → Prop, F = fun _ _ u => u = .bool true := ⟨_, rfl⟩
          have HF := hid hF
          have gd := (Ext.drew wr).cell g0
          have hpd := hp.ext (Ext.drew wr)
          clear hF
          go_wp2
          refine wp_region_xall (F := F) (by kernel_rfl) (by kernel_rfl) (by kernel_rfl) ?_
          intro wf hwf
          repeat (first
            | (refine x_skip rfl ?_; simp only [Act.put, ev_tmp, List.setIfInBounds_toArray, List.set_cons_succ, List.set_cons_zero, List.getD_cons_succ, List.getD_cons_zero])
            | (refine x_mv rfl rfl rfl ?_; simp only [Act.put, ev_tmp, List.setIfInBounds_toArray, List.set_cons_succ, List.set_cons_zero, List.getD_cons_succ, List.getD_cons_zero])
            | (refine x_as rfl rfl rfl ?_; simp only [Act.put, ev_tmp, List.setIfInBounds_toArray, List.set_cons_succ, List.set_cons_zero, List.getD_cons_succ, List.getD_cons_zero])
            | ((with_reducible show wpX _ _ _ _ _ _ (Oper.mk _ (Op.indexAddr _ _ _) _ _ _ _ :: Oper.mk _ (Op.fieldAddr _ _ _) _ _ _ _ :: Oper.mk _ (Op.load _ _) _ _ _ _ :: _) _); refine x_ldField (f := 2) (j := j) (off := 2) rfl rfl (fun _ => rfl) rfl (fun _ _ => rfl) rfl (fun _ => rfl) (fun _ _ => rfl) fo_implLayer_2 rfl rfl (by omega) hpd a6 a7 (by omega) hs1 hcj rfl ?_; simp only [Act.put, ev_tmp, List.setIfInBounds_toArray, List.set_cons_succ, List.set_cons_zero, List.getD_cons_succ, List.getD_cons_zero])
            | ((with_reducible show wpX _ _ _ _ _ _ (Oper.mk _ (Op.indexAddr _ _ _) _ _ _ _ :: Oper.mk _ (Op.fieldAddr _ _ _) _ _ _ _ :: Oper.mk _ (Op.load _ _) _ _ _ _ :: _) _); refine x_ldField (f := 1) (j := (j + 1)) (off := 1) rfl rfl (fun _ => rfl) rfl (fun _ _ => rfl) rfl (fun _ => rfl) (fun _ _ => rfl) fo_implLayer_1 rfl rfl (by omega) hpd a6 a7 hlt hs1 hci rfl ?_; simp only [Act.put, ev_tmp, List.setIfInBounds_toArray, List.set_cons_succ, List.set_cons_zero, List.getD_cons_succ, List.getD_cons_zero])
            | ((with_reducible show wpX _ _ _ _ _ _ (Oper.mk _ (Op.indexAddr _ _ _) _ _ _ _ :: _) _); refine x_idx (t := 33) (s := 5) (i := ((j + 1 : Nat) : Int)) rfl rfl rfl rfl hs1 (by omega) (by omega) ?_; rw [Int.toNat_natCast]; simp only [Act.put, ev_tmp, List.setIfInBounds_toArray, List.set_cons_succ, List.set_cons_zero, List.getD_cons_succ, List.getD_cons_zero])
            | ((with_reducible show wpX _ _ _ _ _ _ (Oper.mk _ (Op.call _) _ _ _ _ :: _) _); refine x_callf (f := 106) (args := #[.pointer (some (adr p ((j + 1) * 5)))]) rfl rfl Try.func106 rfl (by kernel_rfl) ?_ ?_ ?_; (focus (simp [Act.eval]; done)); (focus (intro w1 hw1; exact (by rw [HF.out]; exact C.out w1 (((Ext.drew _).trans hw1))))); rintro u w3 e3 e4 hu; simp only [HF.out] at hu; subst hu; simp only [Act.put, ev_tmp, List.setIfInBounds_toArray, List.set_cons_succ, List.set_cons_zero, List.getD_cons_succ, List.getD_cons_zero])
            | (refine x_run rfl fun K hK w1 hw1 => ?_; have k0 := hw1.cell (gd); go_simp; refine hK _ ?_; clear hK K k0 hw1 w1))
          refine x_nil ?_
          go_wp2
          go_ret
          exact ⟨rfl, (he.trans (Ext.drew _)).trans hwf⟩
    · obtain rfl : i = n := by omega
      have hst := HI.out
      rw [List.drop_of_length_le (by rw [HL.out]; exact Nat.le_refl _)] at hst
      have hst2 : G = true := by rw [← hst]; simp [modGo]
      subst hst2
      go_wp2
      go_ret
      exact ⟨rfl, he⟩
end Go.Proofs.Ytnlhahlegedlaaa
