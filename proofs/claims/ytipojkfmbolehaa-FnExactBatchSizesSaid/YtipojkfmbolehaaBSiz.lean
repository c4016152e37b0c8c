/- BatchSizes of the program and of the reference. -/
import Derived.Test.YtipojkfmbolehaaThings
import Derived.Test.YtipojkfmbolehaaGrow
import Derived.Test.YtipojkfmbolehaaMax
import Derived.Test.YtipojkfmbolehaaTen
import Derived.Test.YtipojkfmbolehaaLay
import Derived.Test.YtipojkfmbolehaaHAnswerS
namespace Go.Proofs.Ytipojkfmbolehaa.lBatchSizes
set_option linter.unusedSimpArgs false
set_option linter.unusedVariables false
open Go.RowKit

/-- One answer more. -/
def more (o : List Int) (b : Int) : Option (List Int) :=
  if b = o.length then some (o ++ [1]) else if b = (o.length : Int) - 1 ∧ o.length ≠ 0 then some (o.set (o.length - 1) (o.getD (o.length - 1) 0 + 1)) else none
def go : List Int → List shAnswer.T → Option (List Int)
  | o, [] => some o
  | o, d :: l => match more o d.2.1 with
    | some o' => go o' l
    | none => none
def fin : Option (List Int) → List Int × Bool
  | some o => (o, true)
  | none => ([], false)
def res (l : List shAnswer.T) : List Int × Bool := if l.length ≤ 20 then fin (go [] l) else ([], false)
/-- Counts are small. -/
def Few (o : List Int) (i : Nat) : Prop := o.length ≤ i ∧ ∀ x ∈ o, 0 ≤ x ∧ x ≤ i
theorem few_more {o o' : List Int} {b : Int} {i : Nat} (h : Few o i) (hm : more o b = some o') : Few o' (i + 1) := by
  unfold more at hm
  split at hm
  · cases hm
    refine ⟨by simp; exact h.1, fun x hx => ?_⟩
    rcases List.mem_append.1 hx with hx | hx
    · have := h.2 x hx; omega
    · simp at hx; omega
  · split at hm
    · cases hm
      refine ⟨by simp; exact Nat.le_succ_of_le h.1, fun x hx => ?_⟩
      rcases List.mem_or_eq_of_mem_set hx with hx | rfl
      · have := h.2 x hx; omega
      · by_cases hl : o.length - 1 < o.length
        · have he : o.getD (o.length - 1) 0 = o[o.length - 1] := by simp [hl]
          rw [he]
          have := h.2 _ (List.getElem_mem hl); omega
        · omega
    · cases hm
theorem go_len : ∀ (l : List shAnswer.T) (o o' : List Int), go o l = some o' → o'.length ≤ o.length + l.length
  | [], o, o', h => by cases h; simp
  | d :: l, o, o', h => by
    simp only [go] at h
    split at h
    · rename_i o1 hm
      have := go_len l o1 o' h
      have h2 : o1.length ≤ o.length + 1 := by
        unfold more at hm
        split at hm
        · cases hm; simp
        · split at hm
          · cases hm; simp
          · cases hm
      simp; omega
    · cases h
theorem res_bd (l : List shAnswer.T) (hl : tot shAnswerS l ≤ 1048576) : tot (.sl .int) (res l).1 ≤ 1048576 := by
  rw [tot_ints]
  unfold res
  split
  · cases h : go [] l with
    | none => simp [fin]
    | some o =>
      have := go_len l [] o h
      simp only [fin]
      simp at this; omega
  · simp
theorem own_outs {w w' : World} {p : Option Addr} {c : Nat} {o : List Int} {e : Ending} (h : w'.ownsRow w.heap.size 2 1 (.slice p o.length c) o.length (o.map (.int .i64))) (he : e = .returned (.tuple #[.slice p o.length c, .bool true])) (hx : Ext w w') : OutOk w (.sl .int) (o, true) e w' := by
  have h1 := own_ints.2 ⟨p, c, rfl, ownRow_of h, (own_cap h).1, (own_cap h).2, rfl⟩
  refine ⟨[.slice p o.length c], _, he, h1, ?_, ?_, hx⟩
  · cases p <;> simp [blocksOf]
  · intro b hb
    cases p with
    | none => simp [blocksOf] at hb
    | some a => simp [blocksOf] at hb; subst hb; exact own_le h _ rfl

set_option maxRecDepth 100000 in
set_option maxHeartbeats 4000000 in
theorem impl_ok (cs0 : List Value) (D0 : shAnswerS.T) (w : World) (h0 : Rep w shAnswerS cs0 D0) : Calls Try.prog 17 #[ofCs shAnswerS cs0] w (OutOk w (.sl .int) (res D0)) := by
  obtain ⟨p, c, css, rfl, a2, a3, a4, a5, a6, a7⟩ := rep_sl h0
  have hm0 := Nat.le_trans a3 a4
  unfold maxLen at hm0
  simp only [ofCs, Sh.agg, List.headD_cons, Bool.false_eq_true, if_false]
  by_cases hl : D0.length ≤ 20
  · have hR : res D0 = fin (go [] D0) := by unfold res; simp [hl]
    rw [hR]
    clear hR h0
    generalize hG : go [] D0 = G
    have HG := hid hG
    clear hG
    generalize hL : D0.length = n at *
    have HL := hid hL
    clear hL
    have hstart : (w.alloc (.cells #[] 2)).ownsRow w.heap.size 2 1 (.slice (some ⟨w.heap.size, 0, none⟩) 0 0) 0 [] := World.ownsRow_made w #[] 0 (Nat.le_refl _) (by decide) rfl
    have e0 := Ext.alloc w (.cells #[] 2)
    go_enter Try.func17, Try.ntmps17
    go_wp2
    go_loopw [4, 14] (fun ov iv wr => ∃ (i : Nat) (o : List Int) (q : Option Addr) (cq : Nat), i ≤ n ∧ iv = .int .i64 i ∧ ov = .slice q o.length cq ∧ wr.ownsRow w.heap.size 2 1 (.slice q o.length cq) o.length (o.map (.int .i64)) ∧ Hid (go o (D0.drop i) = G) ∧ Hid (Few o i) ∧ Ext w wr) (fun _ iv _ => n - (intOf iv).toNat)
    case atStart => exact ⟨0, [], _, _, by omega, rfl, rfl, hstart, by simpa [Hid] using HG.out, ⟨by simp, by simp⟩, e0⟩
    case round =>
      clear hstart e0
      obtain ⟨i, o, q, cq, hi, rfl, rfl, own0, HI, HF, he⟩ := hrel
      have hB := he.size
      by_cases hlt : i < n
      · have hil : i < D0.length := by rw [HL.out]; exact hlt
        obtain ⟨ci, hci, ri⟩ := a5.get i D0[i] (by simp)
        have hd0 : D0.drop i = D0[i] :: D0.drop (i + 1) := List.drop_eq_getElem_cons hil
        have hst := HI.out
        rw [hd0] at hst
        clear hd0
        generalize D0[i] = Q at *
        obtain ⟨t, bt, row, u⟩ := Q
        obtain ⟨_, _, rfl, rfl, _, _, rfl, rfl, _, _, rfl, hrow, rfl⟩ := ri
        obtain ⟨pr, cr, rfl, hlr⟩ := rep_val hrow
        simp only [List.cons_append, List.nil_append] at hci
        simp only [go] at hst
        have hs1 := a2.some_of a6 (by decide) (show 0 < css.length by omega)
        have hp := a2.ext he
        have hol : o.length ≤ i := HF.out.1
        clear a5 hrow HI
        by_cases hc1 : bt = (o.length : Int)
        · have hm : more o bt = some (o ++ [1]) := by unfold more; rw [if_pos hc1]
          rw [hm] at hst
          have Hst := hid hst
          have HF2 := hid (few_more HF.out hm)
          clear hst hm HF
          subst hc1
          have hbe := beq_t (rfl : (o.length : Int) = (o.length : Int))
          have hget : (o ++ [(0 : Int)]).getD (o.length : Int).toNat 0 = 0 := by simp
          go_wp2_with (first
            | ((with_reducible show wpList _ _ _ (Oper.mk _ (Op.indexAddr _ _ _) _ _ _ _ :: Oper.mk _ (Op.load _ _) _ _ _ _ :: _) _ _); refine wl_idxloadE (s := shAnswer) (j := i) rfl rfl rfl rfl (fun _ => rfl) rfl rfl rfl hp a6 a7 hlt hs1 hci ?_; simp only [ofCs, Sh.agg, if_true])
            | ((with_reducible show wpList _ _ _ (Oper.mk _ (Op.buildSlice _ _ _) _ _ _ _ :: Oper.mk _ (Op.call _) _ _ _ _ :: _) _ _); refine wl_app1b (u := .int .i64 0) rfl rfl rfl rfl rfl rfl rfl (fun _ => rfl) (fun _ => rfl) (own_ext own0 (Ext.alloc _ _)) (by unfold maxLen; omega) (by omega) (by simp; omega) ?_; intro g c1 w1 own1 g1 hg1; have own2 : w1.ownsRow w.heap.size 2 1 (.slice (some ⟨g, 0, none⟩) (o.length + 1) c1) (o.length + 1) ((o ++ [0]).map (Value.int .i64)) := (by rw [List.map_append]; exact own1); have e1 := (he.trans (Ext.alloc _ _)).grown g1 (fun k hk => own_le own0 k hk); have x1 := (Chg.of_grown g1).cellOf (b := wr.heap.size) (by simp) (fun h => by have := own_lt own0 _ h.symm; omega))
            | ((with_reducible show wpList _ _ _ (Oper.mk _ (Op.indexAddr _ _ _) _ _ _ _ :: Oper.mk _ (Op.load _ _) _ _ _ _ :: _) _ _); refine wl_ldI rfl rfl rfl rfl (fun _ => rfl) rfl rfl (own_Cs own2) (by simp) (by omega) (by omega) ?_; rw [hget])
            | ((with_reducible show wpList _ _ _ (Oper.mk _ (Op.indexAddr _ _ _) _ _ _ _ :: Oper.mk _ (Op.store _ _ _) _ _ _ _ :: _) _ _); refine wl_stI (u := 1) rfl rfl rfl rfl (fun _ => rfl) rfl rfl (fun _ => rfl) own2 (by omega) (by omega) ?_; intro w2 own3 g2))
          go_roundw
          case rel =>
            have hs : (o ++ [(0 : Int)]).set (o.length : Int).toNat 1 = o ++ [1] := by simp
            rw [hs] at own3
            exact ⟨i + 1, o ++ [1], _, _, by omega, by go_num, by simp; exact ⟨rfl, rfl⟩, by simpa using own3, Hst.out, HF2.out, e1.grown g2 (fun k hk => own_le own2 k hk)⟩
          case measure => simp [intOf]; omega
        · by_cases hc2 : bt = (o.length : Int) - 1 ∧ o.length ≠ 0
          · have hm : more o bt = some (o.set (o.length - 1) (o.getD (o.length - 1) 0 + 1)) := by unfold more; rw [if_neg hc1, if_pos hc2]
            rw [hm] at hst
            have Hst := hid hst
            have HF2 := hid (few_more HF.out hm)
            have hx : 0 ≤ o.getD (o.length - 1) 0 ∧ o.getD (o.length - 1) 0 ≤ i := by
              have hlt2 : o.length - 1 < o.length := by omega
              have he2 : o.getD (o.length - 1) 0 = o[o.length - 1] := by simp [hlt2]
              rw [he2]
              exact HF.out.2 _ (List.getElem_mem hlt2)
            obtain ⟨rfl, hz⟩ := hc2
            clear hst hm HF
            have hto : ((o.length : Int) - 1).toNat = o.length - 1 := by omega
            have hbe := beq_f hc1
            have hbn := bne_f (rfl : (o.length : Int) - 1 = (o.length : Int) - 1)
            have hb0 := beq_f (show ¬ (o.length : Int) = 0 by omega)
            generalize hX : o.getD (o.length - 1) 0 = X at *
            have HX := hid hX
            clear hX
            go_wp2_with (first
              | ((with_reducible show wpList _ _ _ (Oper.mk _ (Op.indexAddr _ _ _) _ _ _ _ :: Oper.mk _ (Op.load _ _) _ _ _ _ :: _) _ _); refine wl_idxloadE (s := shAnswer) (j := i) rfl rfl rfl rfl (fun _ => rfl) rfl rfl rfl hp a6 a7 hlt hs1 hci ?_; simp only [ofCs, Sh.agg, if_true])
              | ((with_reducible show wpList _ _ _ (Oper.mk _ (Op.indexAddr _ _ _) _ _ _ _ :: Oper.mk _ (Op.load _ _) _ _ _ _ :: _) _ _); refine wl_ldI rfl rfl rfl rfl (fun _ => rfl) rfl rfl ((own_Cs own0).ext (Ext.alloc _ _)) rfl (by omega) (by omega) ?_; rw [hto, HX.out])
              | ((with_reducible show wpList _ _ _ (Oper.mk _ (Op.indexAddr _ _ _) _ _ _ _ :: Oper.mk _ (Op.store _ _ _) _ _ _ _ :: _) _ _); refine wl_stI (u := X + 1) rfl rfl rfl rfl (fun _ => rfl) rfl rfl (fun _ => rfl) (own_ext own0 (Ext.alloc _ _)) (by omega) (by omega) ?_; intro w2 own3 g2))
            go_roundw
            case rel =>
              rw [hto] at own3
              exact ⟨i + 1, o.set (o.length - 1) (X + 1), q, cq, by omega, by go_num, by rw [List.length_set], by rw [List.length_set]; exact own3, Hst.out, HF2.out, (he.trans (Ext.alloc _ _)).grown g2 (fun k hk => own_le own0 k hk)⟩
            case measure => simp [intOf]; omega
          · have hm : more o bt = none := by unfold more; rw [if_neg hc1, if_neg hc2]
            rw [hm] at hst
            have hst2 : G = none := hst.symm
            subst hst2
            clear hst hm
            have hbe := beq_f hc1
            by_cases hc3 : bt = (o.length : Int) - 1
            · have hz : o.length = 0 := by
                by_cases hz : o.length = 0
                · exact hz
                · exact absurd ⟨hc3, hz⟩ hc2
              have ho : o = [] := List.eq_nil_of_length_eq_zero hz
              subst ho
              subst hc3
              go_wp2_with ((with_reducible show wpList _ _ _ (Oper.mk _ (Op.indexAddr _ _ _) _ _ _ _ :: Oper.mk _ (Op.load _ _) _ _ _ _ :: _) _ _); refine wl_idxloadE (s := shAnswer) (j := i) rfl rfl rfl rfl (fun _ => rfl) rfl rfl rfl hp a6 a7 hlt hs1 hci ?_; simp only [ofCs, Sh.agg, if_true])
              go_ret2
              exact outOk_no rfl (he.trans (Ext.alloc _ _))
            · have hbn := bne_t hc3
              go_wp2_with ((with_reducible show wpList _ _ _ (Oper.mk _ (Op.indexAddr _ _ _) _ _ _ _ :: Oper.mk _ (Op.load _ _) _ _ _ _ :: _) _ _); refine wl_idxloadE (s := shAnswer) (j := i) rfl rfl rfl rfl (fun _ => rfl) rfl rfl rfl hp a6 a7 hlt hs1 hci ?_; simp only [ofCs, Sh.agg, if_true])
              go_ret2
              exact outOk_no rfl (he.trans (Ext.alloc _ _))
      · obtain rfl : i = n := by omega
        have hst := HI.out
        rw [List.drop_of_length_le (by rw [HL.out]; exact Nat.le_refl _)] at hst
        simp only [go] at hst
        subst hst
        go_wp2
        go_ret2
        exact own_outs own0 rfl he
  · have hR : res D0 = ([], false) := by unfold res; simp [hl]
    rw [hR]
    clear hR h0 a5 a7 a2
    generalize D0.length = n at *
    go_enter Try.func17, Try.ntmps17
    go_wp2
    go_ret2
    exact outOk_no rfl (Ext.refl _)
end Go.Proofs.Ytipojkfmbolehaa.lBatchSizes
