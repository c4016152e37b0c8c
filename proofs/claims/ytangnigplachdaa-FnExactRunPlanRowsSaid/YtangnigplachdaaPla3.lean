/- Plans: which are valid. -/
import Derived.Test.YtangnigplachdaaPla2
import Derived.Test.YtangnigplachdaaKb
import Derived.Test.YtangnigplachdaaKc
namespace Go.Proofs.Ytangnigplachdaa
set_option linter.unusedSimpArgs false
set_option linter.unusedVariables false
open Go.RowKit

def stpD (d : shPlanStep.T) : Bool := stpB d.1 d.2.1 d.2.2.1 d.2.2.2.1.length d.2.2.2.2.1.length d.2.2.2.2.2.1.length d.2.2.2.2.2.2.1
def stpO (d : shPlanStep.T) : Int := d.2.2.1
def linkB : Option Int → Int → Bool
  | none, _ => true
  | some o, i => decide (i = o)
def plaGo : Option Int → List shPlanStep.T → Bool
  | _, [] => true
  | p, d :: l => stpD d && (linkB p d.2.1 && plaGo (some (stpO d)) l)
def plaB (l : List shPlanStep.T) : Bool := plaGo none l && decide (l.length ≤ 6)
/-- What comes out of the step before. -/
def prevO (l : List shPlanStep.T) : Nat → Option Int
  | 0 => none
  | i + 1 => l[i]?.map stpO
theorem plaGo_at {l : List shPlanStep.T} {i : Nat} (hi : i < l.length) (p : Option Int) :
    plaGo p (l.drop i) = (stpD l[i] && (linkB p l[i].2.1 && plaGo (prevO l (i + 1)) (l.drop (i + 1)))) := by
  rw [List.drop_eq_getElem_cons hi]
  simp [plaGo, prevO, hi]

/-- The cells of a step, one by one. -/
theorem stp_cells {w : World} {cs : List Value} {d : shPlanStep.T} (h : Rep w shPlanStep cs d) : ∃ pw cw pb cb ps cq, cs = [.int .i64 d.1, .int .i64 d.2.1, .int .i64 d.2.2.1, .slice pw d.2.2.2.1.length cw, .slice pb d.2.2.2.2.1.length cb, .slice ps d.2.2.2.2.2.1.length cq, .bool d.2.2.2.2.2.2.1] ∧
    d.2.2.2.1.length ≤ maxLen ∧ d.2.2.2.2.1.length ≤ maxLen ∧ d.2.2.2.2.2.1.length ≤ maxLen := by
  obtain ⟨a1, a2, a3, a4, a5, a6, a7, au⟩ := d
  obtain ⟨_, _, rfl, rfl, _, _, rfl, rfl, _, _, rfl, rfl, _, _, rfl, h4, _, _, rfl, h5, _, _, rfl, h6, _, _, rfl, rfl, rfl⟩ := h
  obtain ⟨p4, c4, rfl, l4⟩ := rep_val h4
  obtain ⟨p5, c5, rfl, l5⟩ := rep_val h5
  obtain ⟨p6, c6, rfl, l6⟩ := rep_val h6
  exact ⟨p4, c4, p5, c5, p6, c6, rfl, l4, l5, l6⟩

set_option maxRecDepth 100000 in
set_option maxHeartbeats 1000000 in
theorem l09Is_any {sp : Option Nat} (bl o' : Nat) (p : Option Addr) (n c : Nat) (l : List shPlanStep.T) (css : List (List Value)) (w : World) (f0 : w.cell? ⟨bl, o', sp⟩ = some (.slice p n c)) (hn : l.length = n) (hm : n ≤ maxLen)
    (a2 : Cs w p css.flatten) (a5 : All2 (Rep w shPlanStep) css l) (a6 : ∀ c ∈ css, c.length = shPlanStep.sz) (a7 : css.length = n) :
    Calls Try.prog 106 #[.pointer (some ⟨bl, o', sp⟩)] w (RetB w (plaB l)) := by
  unfold maxLen at hm
  unfold plaB
  generalize hG : plaGo none l = G
  have HG := hid hG
  have HL := hid hn
  clear hG
  go_enter Try.func106, Try.ntmps106
  go_wp2
  go_loopw [3] (fun iv wr => ∃ (i : Nat), i ≤ n ∧ iv = .int .i64 i ∧ Hid (plaGo (prevO l i) (l.drop i) = G) ∧ Ext w wr) (fun iv _ => n - (intOf iv).toNat)
  case atStart => exact ⟨0, by omega, rfl, by simpa [Hid, prevO] using HG.out, Ext.refl w⟩
  case round =>
    obtain ⟨i, hi, rfl, HI, he⟩ := hrel
    have g0 := he.cell f0
    by_cases hlt : i < n
    · have hil : i < l.length := by rw [HL.out]; exact hlt
      obtain ⟨ci, hci, ri⟩ := a5.get i l[i] (by simp)
      obtain ⟨pw, cw, pb, cb, ps, cq, rfl, l1, l2, l3⟩ := stp_cells ri
      have hst := HI.out
      rw [plaGo_at hil] at hst
      have hs1 := a2.some_of a6 (by decide) (show 0 < css.length by omega)
      have hp := a2.ext he
      have C := hid (fun w1 (hw1 : Ext wr w1) => calls_retB (l09Step_any (sp := (adr p (i * 7)).spot) (adr p (i * 7)).block (adr p (i * 7)).off _ _ _ pw pb ps _ cw _ cb _ cq _ w1 (fcell hp a6 a7 hlt hci 0 hw1 rfl) (fcell hp a6 a7 hlt hci 1 hw1 rfl) (fcell hp a6 a7 hlt hci 2 hw1 rfl) (fcell hp a6 a7 hlt hci 3 hw1 rfl) (fcell hp a6 a7 hlt hci 4 hw1 rfl) (fcell hp a6 a7 hlt hci 5 hw1 rfl) (fcell hp a6 a7 hlt hci 6 hw1 rfl) l1 l2 l3))
      generalize hD : l[i] = d at *
      have HD := hid hD
      clear hD
      cases hb : stpD d
      · have hG : G = false := by rw [← hst, hb]; rfl
        subst hG
        unfold stpD at hb
        rw [hb] at C
        clear hb hst
        obtain ⟨F, hF⟩ : ∃ F : Option Tmp → World → Value → Prop, F = fun _ _ u => u = .bool false := ⟨_, rfl⟩
        have HF := hid hF
        have gd := (Ext.drew wr).cell g0
        have hpd := hp.ext (Ext.drew wr)
        clear hF
        go_wp2
        refine wp_region_xall (F := F) (by kernel_rfl) (by kernel_rfl) (by kernel_rfl) ?_
        intro wf hwf
        repeat (first
          | (refine x_skip rfl ?_; simp only [Act.put, ev_tmp, List.setIfInBounds_toArray, List.set_cons_succ, List.set_cons_zero, List.getD_cons_succ, List.getD_cons_zero])
          | (refine x_mv rfl rfl rfl ?_; simp only [Act.put, ev_tmp, List.setIfInBounds_toArray, List.set_cons_succ, List.set_cons_zero, List.getD_cons_succ, List.getD_cons_zero])
          | (refine x_as rfl rfl rfl ?_; simp only [Act.put, ev_tmp, List.setIfInBounds_toArray, List.set_cons_succ, List.set_cons_zero, List.getD_cons_succ, List.getD_cons_zero])
          | ((with_reducible show wpX _ _ _ _ _ _ (Oper.mk _ (Op.indexAddr _ _ _) _ _ _ _ :: _) _); refine x_idx (t := 73) (s := 7) (i := (i : Int)) rfl rfl rfl rfl hs1 (by omega) (by omega) ?_; rw [Int.toNat_natCast]; simp only [Act.put, ev_tmp, List.setIfInBounds_toArray, List.set_cons_succ, List.set_cons_zero, List.getD_cons_succ, List.getD_cons_zero])
          | ((with_reducible show wpX _ _ _ _ _ _ (Oper.mk _ (Op.call _) _ _ _ _ :: _) _); refine x_callf (f := 152) (args := #[.pointer (some (adr p (i * 7)))]) rfl rfl Try.func152 rfl (by kernel_rfl) ?_ ?_ ?_; (focus (simp [Act.eval]; done)); (focus (intro w1 hw1; exact (by rw [HF.out]; exact C.out w1 (((Ext.drew _).trans hw1))))); rintro u w3 e3 e4 hu; simp only [HF.out] at hu; subst hu; simp only [Act.put, ev_tmp, List.setIfInBounds_toArray, List.set_cons_succ, List.set_cons_zero, List.getD_cons_succ, List.getD_cons_zero])
          | (refine x_run rfl fun K hK w1 hw1 => ?_; have k0 := hw1.cell (gd); go_simp; refine hK _ ?_; clear hK K k0 hw1 w1))
        refine x_nil ?_
        go_wp2
        go_ret
        exact ⟨rfl, (he.trans (Ext.drew _)).trans hwf⟩
      have hb2 := hb
      unfold stpD at hb2
      rw [hb2] at C
      rw [hb, Bool.true_and] at hst
      clear hb hb2
      rcases Nat.eq_zero_or_pos i with h0 | h0
      · subst h0
        have hst2 : plaGo (prevO l 1) (l.drop 1) = G := by rw [← hst]; simp [linkB, prevO]
        have Hst := hid hst2
        clear hst hst2
        obtain ⟨F, hF⟩ : ∃ F : Option Tmp → World → Value → Prop, F = fun _ _ u => u = .bool true := ⟨_, rfl⟩
        have HF := hid hF
        have gd := (Ext.drew wr).cell g0
        have hpd := hp.ext (Ext.drew wr)
        clear hF
        go_wp2
        refine wp_region_xall (F := F) (by kernel_rfl) (by kernel_rfl) (by kernel_rfl) ?_
        intro wf hwf
        repeat (first
          | (refine x_skip rfl ?_; simp only [Act.put, ev_tmp, List.setIfInBounds_toArray, List.set_cons_succ, List.set_cons_zero, List.getD_cons_succ, List.getD_cons_zero])
          | (refine x_mv rfl rfl rfl ?_; simp only [Act.put, ev_tmp, List.setIfInBounds_toArray, List.set_cons_succ, List.set_cons_zero, List.getD_cons_succ, List.getD_cons_zero])
          | (refine x_as rfl rfl rfl ?_; simp only [Act.put, ev_tmp, List.setIfInBounds_toArray, List.set_cons_succ, List.set_cons_zero, List.getD_cons_succ, List.getD_cons_zero])
          | ((with_reducible show wpX _ _ _ _ _ _ (Oper.mk _ (Op.indexAddr _ _ _) _ _ _ _ :: _) _); refine x_idx (t := 73) (s := 7) (i := ((0 : Nat) : Int)) rfl rfl rfl rfl hs1 (by omega) (by omega) ?_; rw [Int.toNat_natCast]; simp only [Act.put, ev_tmp, List.setIfInBounds_toArray, List.set_cons_succ, List.set_cons_zero, List.getD_cons_succ, List.getD_cons_zero])
          | ((with_reducible show wpX _ _ _ _ _ _ (Oper.mk _ (Op.call _) _ _ _ _ :: _) _); refine x_callf (f := 152) (args := #[.pointer (some (adr p (0 * 7)))]) rfl rfl Try.func152 rfl (by kernel_rfl) ?_ ?_ ?_; (focus (simp [Act.eval]; done)); (focus (intro w1 hw1; exact (by rw [HF.out]; exact C.out w1 (((Ext.drew _).trans hw1))))); rintro u w3 e3 e4 hu; simp only [HF.out] at hu; subst hu; simp only [Act.put, ev_tmp, List.setIfInBounds_toArray, List.set_cons_succ, List.set_cons_zero, List.getD_cons_succ, List.getD_cons_zero])
          | (refine x_run rfl fun K hK w1 hw1 => ?_; have k0 := hw1.cell (gd); go_simp; refine hK _ ?_; clear hK K k0 hw1 w1))
        refine x_nil ?_
        go_wp2
        go_roundw
        case rel => exact ⟨1, by omega, by go_num, Hst.out, (he.trans (Ext.drew _)).trans hwf⟩
        case measure => simp [intOf]; omega
      · obtain ⟨j, rfl⟩ : ∃ j, i = j + 1 := ⟨i - 1, by omega⟩
        obtain ⟨cj, hcj, rj⟩ := a5.get j l[j] (by simp)
        obtain ⟨qw, dw, qb, db, qs, dq, rfl, _, _, _⟩ := stp_cells rj
        have hlk : linkB (prevO l (j + 1)) d.2.1 = decide (d.2.1 = stpO l[j]) := by simp [prevO, linkB, show j < l.length by omega]
        rw [hlk] at hst
        have hA : IntKind.i64.wrap (((j + 1 : Nat) : Int) - 1) = (j : Int) := by rw [show ((j + 1 : Nat) : Int) - 1 = (j : Int) by omega]; exact wrap_in _ (by omega) (by omega)
        have hB : IntKind.i64.wrap ((j : Int) + 1 - 1) = (j : Int) := by rw [show (j : Int) + 1 - 1 = (j : Int) by omega]; exact wrap_in _ (by omega) (by omega)
        have hC : IntKind.i64.wrap (j : Int) = (j : Int) := wrap_in _ (by omega) (by omega)
        clear hlk
        by_cases hq : d.2.1 = stpO l[j]
        · have hst2 : plaGo (prevO l (j + 1 + 1)) (l.drop (j + 1 + 1)) = G := by rw [← hst]; simp [hq]
          have Hst := hid hst2
          have Q := bne_f hq.symm
          unfold stpO at Q
          clear hst hst2 hq
          obtain ⟨F, hF⟩ : ∃ F : Option Tmp → World → Value → Prop, F = fun _ _ u => u = .bool true := ⟨_, rfl⟩
          have HF := hid hF
          have gd := (Ext.drew wr).cell g0
          have hpd := hp.ext (Ext.drew wr)
          clear hF
          go_wp2
          refine wp_region_xall (F := F) (by kernel_rfl) (by kernel_rfl) (by kernel_rfl) ?_
          intro wf hwf
          repeat (first
            | (refine x_skip rfl ?_; simp only [Act.put, ev_tmp, List.setIfInBounds_toArray, List.set_cons_succ, List.set_cons_zero, List.getD_cons_succ, List.getD_cons_zero])
            | (refine x_mv rfl rfl rfl ?_; simp only [Act.put, ev_tmp, List.setIfInBounds_toArray, List.set_cons_succ, List.set_cons_zero, List.getD_cons_succ, List.getD_cons_zero])
            | (refine x_as rfl rfl rfl ?_; simp only [Act.put, ev_tmp, List.setIfInBounds_toArray, List.set_cons_succ, List.set_cons_zero, List.getD_cons_succ, List.getD_cons_zero])
            | ((with_reducible show wpX _ _ _ _ _ _ (Oper.mk _ (Op.indexAddr _ _ _) _ _ _ _ :: Oper.mk _ (Op.fieldAddr _ _ _) _ _ _ _ :: Oper.mk _ (Op.load _ _) _ _ _ _ :: _) _); refine x_ldField (f := 2) (j := j) (off := 2) rfl rfl (fun _ => rfl) rfl (fun _ _ => rfl) rfl (fun _ => rfl) (fun _ _ => rfl) fo_implPlanStep_2 rfl rfl (by omega) hpd a6 a7 (by omega) hs1 hcj rfl ?_; simp only [Act.put, ev_tmp, List.setIfInBounds_toArray, List.set_cons_succ, List.set_cons_zero, List.getD_cons_succ, List.getD_cons_zero])
            | ((with_reducible show wpX _ _ _ _ _ _ (Oper.mk _ (Op.indexAddr _ _ _) _ _ _ _ :: Oper.mk _ (Op.fieldAddr _ _ _) _ _ _ _ :: Oper.mk _ (Op.load _ _) _ _ _ _ :: _) _); refine x_ldField (f := 1) (j := (j + 1)) (off := 1) rfl rfl (fun _ => rfl) rfl (fun _ _ => rfl) rfl (fun _ => rfl) (fun _ _ => rfl) fo_implPlanStep_1 rfl rfl (by omega) hpd a6 a7 hlt hs1 hci rfl ?_; simp only [Act.put, ev_tmp, List.setIfInBounds_toArray, List.set_cons_succ, List.set_cons_zero, List.getD_cons_succ, List.getD_cons_zero])
            | ((with_reducible show wpX _ _ _ _ _ _ (Oper.mk _ (Op.indexAddr _ _ _) _ _ _ _ :: _) _); refine x_idx (t := 73) (s := 7) (i := ((j + 1 : Nat) : Int)) rfl rfl rfl rfl hs1 (by omega) (by omega) ?_; rw [Int.toNat_natCast]; simp only [Act.put, ev_tmp, List.setIfInBounds_toArray, List.set_cons_succ, List.set_cons_zero, List.getD_cons_succ, List.getD_cons_zero])
            | ((with_reducible show wpX _ _ _ _ _ _ (Oper.mk _ (Op.call _) _ _ _ _ :: _) _); refine x_callf (f := 152) (args := #[.pointer (some (adr p ((j + 1) * 7)))]) rfl rfl Try.func152 rfl (by kernel_rfl) ?_ ?_ ?_; (focus (simp [Act.eval]; done)); (focus (intro w1 hw1; exact (by rw [HF.out]; exact C.out w1 (((Ext.drew _).trans hw1))))); rintro u w3 e3 e4 hu; simp only [HF.out] at hu; subst hu; simp only [Act.put, ev_tmp, List.setIfInBounds_toArray, List.set_cons_succ, List.set_cons_zero, List.getD_cons_succ, List.getD_cons_zero])
            | (refine x_run rfl fun K hK w1 hw1 => ?_; have k0 := hw1.cell (gd); go_simp; refine hK _ ?_; clear hK K k0 hw1 w1))
          refine x_nil ?_
          go_wp2
          go_roundw
          case rel => exact ⟨j + 1 + 1, by omega, by go_num, Hst.out, (he.trans (Ext.drew _)).trans hwf⟩
          case measure => simp [intOf]; omega
        · have hG : G = false := by rw [← hst]; simp [hq]
          subst hG
          have Q := bne_t (fun h => hq h.symm)
          unfold stpO at Q
          clear hst hq
          obtain ⟨F, hF⟩ : ∃ F : Option Tmp → World → Value → Prop, F = fun _ _ u => u = .bool true := ⟨_, rfl⟩
          have HF := hid hF
          have gd := (Ext.drew wr).cell g0
          have hpd := hp.ext (Ext.drew wr)
          clear hF
          go_wp2
          refine wp_region_xall (F := F) (by kernel_rfl) (by kernel_rfl) (by kernel_rfl) ?_
          intro wf hwf
          repeat (first
            | (refine x_skip rfl ?_; simp only [Act.put, ev_tmp, List.setIfInBounds_toArray, List.set_cons_succ, List.set_cons_zero, List.getD_cons_succ, List.getD_cons_zero])
            | (refine x_mv rfl rfl rfl ?_; simp only [Act.put, ev_tmp, List.setIfInBounds_toArray, List.set_cons_succ, List.set_cons_zero, List.getD_cons_succ, List.getD_cons_zero])
            | (refine x_as rfl rfl rfl ?_; simp only [Act.put, ev_tmp, List.setIfInBounds_toArray, List.set_cons_succ, List.set_cons_zero, List.getD_cons_succ, List.getD_cons_zero])
            | ((with_reducible show wpX _ _ _ _ _ _ (Oper.mk _ (Op.indexAddr _ _ _) _ _ _ _ :: Oper.mk _ (Op.fieldAddr _ _ _) _ _ _ _ :: Oper.mk _ (Op.load _ _) _ _ _ _ :: _) _); refine x_ldField (f := 2) (j := j) (off := 2) rfl rfl (fun _ => rfl) rfl (fun _ _ => rfl) rfl (fun _ => rfl) (fun _ _ => rfl) fo_implPlanStep_2 rfl rfl (by omega) hpd a6 a7 (by omega) hs1 hcj rfl ?_; simp only [Act.put, ev_tmp, List.setIfInBounds_toArray, List.set_cons_succ, List.set_cons_zero, List.getD_cons_succ, List.getD_cons_zero])
            | ((with_reducible show wpX _ _ _ _ _ _ (Oper.mk _ (Op.indexAddr _ _ _) _ _ _ _ :: Oper.mk _ (Op.fieldAddr _ _ _) _ _ _ _ :: Oper.mk _ (Op.load _ _) _ _ _ _ :: _) _); refine x_ldField (f := 1) (j := (j + 1)) (off := 1) rfl rfl (fun _ => rfl) rfl (fun _ _ => rfl) rfl (fun _ => rfl) (fun _ _ => rfl) fo_implPlanStep_1 rfl rfl (by omega) hpd a6 a7 hlt hs1 hci rfl ?_; simp only [Act.put, ev_tmp, List.setIfInBounds_toArray, List.set_cons_succ, List.set_cons_zero, List.getD_cons_succ, List.getD_cons_zero])
            | ((with_reducible show wpX _ _ _ _ _ _ (Oper.mk _ (Op.indexAddr _ _ _) _ _ _ _ :: _) _); refine x_idx (t := 73) (s := 7) (i := ((j + 1 : Nat) : Int)) rfl rfl rfl rfl hs1 (by omega) (by omega) ?_; rw [Int.toNat_natCast]; simp only [Act.put, ev_tmp, List.setIfInBounds_toArray, List.set_cons_succ, List.set_cons_zero, List.getD_cons_succ, List.getD_cons_zero])
            | ((with_reducible show wpX _ _ _ _ _ _ (Oper.mk _ (Op.call _) _ _ _ _ :: _) _); refine x_callf (f := 152) (args := #[.pointer (some (adr p ((j + 1) * 7)))]) rfl rfl Try.func152 rfl (by kernel_rfl) ?_ ?_ ?_; (focus (simp [Act.eval]; done)); (focus (intro w1 hw1; exact (by rw [HF.out]; exact C.out w1 (((Ext.drew _).trans hw1))))); rintro u w3 e3 e4 hu; simp only [HF.out] at hu; subst hu; simp only [Act.put, ev_tmp, List.setIfInBounds_toArray, List.set_cons_succ, List.set_cons_zero, List.getD_cons_succ, List.getD_cons_zero])
            | (refine x_run rfl fun K hK w1 hw1 => ?_; have k0 := hw1.cell (gd); go_simp; refine hK _ ?_; clear hK K k0 hw1 w1))
          refine x_nil ?_
          go_wp2
          go_ret
          exact ⟨rfl, (he.trans (Ext.drew _)).trans hwf⟩
    · obtain rfl : i = n := by omega
      have hst := HI.out
      rw [List.drop_of_length_le (by rw [HL.out]; exact Nat.le_refl _)] at hst
      have hst2 : G = true := by rw [← hst]; simp [plaGo]
      subst hst2
      go_wp2
      go_ret
      exact ⟨ret_bool (a := decide ((i : Int) ≤ 6)) (by rw [HL.out, Bool.true_and]; exact decide_eq_decide.2 (by omega)), he⟩
end Go.Proofs.Ytangnigplachdaa
