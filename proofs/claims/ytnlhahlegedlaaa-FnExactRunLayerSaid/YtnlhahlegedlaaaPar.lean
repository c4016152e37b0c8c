/- The parameters of a model: its weights and biases, layer by layer. -/
import Derived.Test.YtnlhahlegedlaaaMod
import Derived.Test.YtnlhahlegedlaaaApp
import Derived.Test.YtnlhahlegedlaaaThings
namespace Go.Proofs.Ytnlhahlegedlaaa
set_option linter.unusedSimpArgs false
set_option linter.unusedVariables false
open Go.RowKit

def parF (l : List shLayer.T) : List Nat := l.flatMap fun d => (d.2.2.2.1 : List Nat) ++ d.2.2.2.2.1
theorem parF_take {l : List shLayer.T} {i : Nat} (h : i < l.length) : parF (l.take (i + 1)) = parF (l.take i) ++ ((l[i].2.2.2.1 : List Nat) ++ l[i].2.2.2.2.1) := by
  unfold parF
  rw [List.take_add_one, List.getElem?_eq_getElem h, List.flatMap_append]
  simp
theorem parF_le (l : List shLayer.T) (i : Nat) : (parF (l.take i)).length ≤ (parF l).length := by
  have : parF l = parF (l.take i) ++ parF (l.drop i) := by
    unfold parF; rw [← List.flatMap_append, List.take_append_drop]
  rw [this, List.length_append]; omega
/-- A list of numbers of one's own. -/
def RetFl (w : World) (xs : List Nat) (e : Ending) (w' : World) : Prop :=
  ∃ q c vs, e = .returned (.slice q xs.length c) ∧ w'.ownsRow w.heap.size 26 1 (.slice q xs.length c) xs.length vs ∧ F32s vs xs ∧ Ext w w'
theorem F32s.app {us vs : List Value} {xs ys : List Nat} (h : F32s us xs) (k : F32s vs ys) : F32s (us ++ vs) (xs ++ ys) := by
  refine ⟨by rw [List.length_append, List.length_append, h.1, k.1], fun i hi => ?_⟩
  by_cases hl : i < xs.length
  · obtain ⟨b, h1, h2⟩ := h.2 i hl
    exact ⟨b, by rw [List.getElem?_append_left (by rw [h.1]; exact hl)]; exact h1, by rw [h2]; simp [List.getD_eq_getElem?_getD, List.getElem?_append_left hl]⟩
  · rw [List.length_append] at hi
    obtain ⟨b, h1, h2⟩ := k.2 (i - xs.length) (by omega)
    exact ⟨b, by rw [List.getElem?_append_right (by rw [h.1]; omega), h.1]; exact h1, by rw [h2]; simp [List.getD_eq_getElem?_getD, List.getElem?_append_right (show xs.length ≤ i by omega)]⟩
theorem F32s.one {us : List Value} {xs : List Nat} (h : F32s us xs) : ∀ u ∈ us, u.oneCell' = true := by
  intro u hu
  obtain ⟨i, hi, rfl⟩ := List.mem_iff_getElem.1 hu
  obtain ⟨b, h1, _⟩ := h.2 i (by rw [← h.1]; exact hi)
  rw [List.getElem?_eq_getElem hi] at h1
  rw [Option.some.inj h1]; rfl
theorem retFl_of {w w' : World} {xs : List Nat} {v : Value} {e : Ending} {vs : List Value} {n : Nat} (hl : xs.length = n) (h : w'.ownsRow w.heap.size 26 1 v n vs) (hf : F32s vs xs) (he : e = .returned v) (hx : Ext w w') : RetFl w xs e w' := by
  subst hl
  obtain ⟨q, c, rfl⟩ : ∃ q c, v = .slice q xs.length c := by
    rcases h.2 with ⟨h1, h2⟩ | ⟨g, cap, cur, h1, _⟩
    · exact ⟨none, 0, by rw [h1, h2]⟩
    · exact ⟨_, _, h1⟩
  exact ⟨q, c, vs, he, h, hf, hx⟩

/-- The cells of a layer with its numbers. -/
theorem lay_nums {w : World} {cs : List Value} {d : shLayer.T} (h : Rep w shLayer cs d) : ∃ pw cw pb cb us vs, cs = [.int .i64 d.1, .int .i64 d.2.1, .int .i64 d.2.2.1, .slice pw d.2.2.2.1.length cw, .slice pb d.2.2.2.2.1.length cb] ∧
    Cs w pw us ∧ F32s us d.2.2.2.1 ∧ d.2.2.2.1.length ≤ cw ∧ Cs w pb vs ∧ F32s vs d.2.2.2.2.1 ∧ d.2.2.2.2.1.length ≤ cb := by
  obtain ⟨a1, a2, a3, a4, a5, au⟩ := d
  obtain ⟨_, _, rfl, rfl, _, _, rfl, rfl, _, _, rfl, rfl, _, _, rfl, h4, _, _, rfl, h5, rfl⟩ := h
  obtain ⟨p4, c4, us, rfl, h1, h2, h3, _⟩ := rep_flts.1 h4
  obtain ⟨p5, c5, vs, rfl, g1, g2, g3, _⟩ := rep_flts.1 h5
  exact ⟨p4, c4, p5, c5, us, vs, rfl, h1, h2, h3, g1, g2, g3⟩

set_option maxRecDepth 100000 in
set_option maxHeartbeats 4000000 in
theorem params_any (p : Option Addr) (n c : Nat) (l : List shLayer.T) (css : List (List Value)) (w : World) (hn : l.length = n) (hm : n ≤ maxLen)
    (a2 : Cs w p css.flatten) (a5 : All2 (Rep w shLayer) css l) (a6 : ∀ c ∈ css, c.length = shLayer.sz) (a7 : css.length = n) (hT : (parF l).length ≤ 1073741824) :
    Calls Try.prog 119 #[.agg #[.slice p n c]] w (RetFl w (parF l)) := by
  unfold maxLen at hm
  have HL := hid hn
  have HP := hid (parF_le l)
  clear hn
  have hstart : ((w.alloc (.cells #[.slice p n c] 35)).alloc (.cells #[] 26)).ownsRow w.heap.size 26 1 (.slice (some ⟨(w.alloc (.cells #[.slice p n c] 35)).heap.size, 0, none⟩) 0 0) 0 [] := World.ownsRow_made (w.alloc (.cells #[.slice p n c] 35)) #[] 0 (by simp) (by decide) rfl
  have e0 := (Ext.alloc w (.cells #[.slice p n c] 35)).trans (Ext.alloc _ (.cells #[] 26))
  simp only [World.size_alloc] at hstart
  go_enter Try.func119, Try.ntmps119
  go_wp2
  go_loopw [3, 10] (fun bv iv wr => ∃ (i : Nat) (vs : List Value), i ≤ n ∧ iv = .int .i64 i ∧ wr.ownsRow w.heap.size 26 1 bv (parF (l.take i)).length vs ∧ Hid (F32s vs (parF (l.take i))) ∧ Ext w wr) (fun _ iv _ => n - (intOf iv).toNat)
  case atStart => exact ⟨0, [], by omega, rfl, by simpa [parF] using hstart, by simp [Hid, parF, F32s.nil], e0⟩
  case round =>
    rename_i bv _
    clear hstart e0
    obtain ⟨i, vs, hi, rfl, own0, HF, he⟩ := hrel
    have hB := he.size
    by_cases hlt : i < n
    · have hil : i < l.length := by rw [HL.out]; exact hlt
      obtain ⟨ci, hci, ri⟩ := a5.get i l[i] (by simp)
      obtain ⟨pw, cw, pb, cb, us, ws, rfl, k1, k2, k3, k4, k5, k6⟩ := lay_nums ri
      have hpl := HP.out (i + 1)
      have hpt := parF_take hil
      rw [hpt, List.length_append, List.length_append] at hpl
      have hs1 := a2.some_of a6 (by decide) (show 0 < css.length by omega)
      have hp := a2.ext he
      generalize hx : parF (l.take i) = xs at *
      generalize l[i] = d at *
      have Hpt := hid hpt
      have u1 := k2.1
      have u2 := k5.1
      have o1 := hid k2.one
      have o2 := hid k5.one
      clear hpt hx ri a5 HP
      go_wp2_with (first
        | ((with_reducible show wpList _ _ _ (Oper.mk _ (Op.indexAddr _ _ _) _ _ _ _ :: Oper.mk _ (Op.load _ _) _ _ _ _ :: _) _ _); refine wl_idxloadE (s := shLayer) (j := i) rfl rfl rfl rfl (fun _ => rfl) rfl rfl rfl hp a6 a7 hlt hs1 hci ?_; simp only [ofCs, Sh.agg, if_true])
        | ((with_reducible show wpList _ _ _ (Oper.mk _ (Op.call _) _ _ _ _ :: _) _ _); refine wl_appz rfl rfl rfl rfl (own_ext own0 (Ext.alloc _ _)) ((k1.ext he).ext (Ext.alloc _ _)) (by rw [u1, Nat.mul_one]) k3 o1.out (by unfold maxLen; omega) (by omega) (by simp; omega) ?_; intro v1 w1 own1 g1; have e1 := (he.trans (Ext.alloc _ _)).grown g1 (fun k hk => own_le own0 k hk); have x1 := (Chg.of_grown g1).cellOf (b := wr.heap.size) (by simp) (fun h => by have := own_lt own0 _ h.symm; omega); have hB1 := e1.size)
        | ((with_reducible show wpList _ _ _ (Oper.mk _ (Op.call _) _ _ _ _ :: _) _ _); refine wl_appz rfl rfl rfl rfl own1 (k4.ext e1) (by rw [u2, Nat.mul_one]) k6 o2.out (by unfold maxLen; omega) (by omega) hB1 ?_; intro v2 w2 own2 g2))
      go_roundw
      case rel =>
        refine ⟨i + 1, (vs ++ us) ++ ws, by omega, by go_num, ?_, ?_, e1.grown g2 (fun k hk => own_le own1 k hk)⟩
        · rw [Hpt.out, List.length_append, List.length_append, ← Nat.add_assoc]; exact own2
        · rw [Hid, Hpt.out, ← List.append_assoc]; exact (HF.out.app k2).app k5
      case measure => simp [intOf]; omega
    · obtain rfl : i = n := by omega
      have ht : l.take i = l := List.take_of_length_le (by rw [HL.out]; exact Nat.le_refl _)
      rw [ht] at own0 HF
      go_wp2
      go_ret
      exact retFl_of rfl own0 HF.out rfl he

set_option maxRecDepth 100000 in
set_option maxHeartbeats 4000000 in
theorem l03Params_any {sp : Option Nat} (bl o' : Nat) (p : Option Addr) (n c : Nat) (l : List shLayer.T) (css : List (List Value)) (w : World) (f0 : w.cell? ⟨bl, o', sp⟩ = some (.slice p n c)) (hn : l.length = n) (hm : n ≤ maxLen)
    (a2 : Cs w p css.flatten) (a5 : All2 (Rep w shLayer) css l) (a6 : ∀ c ∈ css, c.length = shLayer.sz) (a7 : css.length = n) (hT : (parF l).length ≤ 1073741824) :
    Calls Try.prog 115 #[.pointer (some ⟨bl, o', sp⟩)] w (RetFl w (parF l)) := by
  unfold maxLen at hm
  have HL := hid hn
  have HP := hid (parF_le l)
  clear hn
  have hstart : (w.alloc (.cells #[] 26)).ownsRow w.heap.size 26 1 (.slice (some ⟨w.heap.size, 0, none⟩) 0 0) 0 [] := World.ownsRow_made w #[] 0 (Nat.le_refl _) (by decide) rfl
  have e0 := Ext.alloc w (.cells #[] 26)
  go_enter Try.func115, Try.ntmps115
  go_wp2
  go_loopw [3, 4] (fun bv iv wr => ∃ (i : Nat) (vs : List Value), i ≤ n ∧ iv = .int .i64 i ∧ wr.ownsRow w.heap.size 26 1 bv (parF (l.take i)).length vs ∧ Hid (F32s vs (parF (l.take i))) ∧ Ext w wr) (fun _ iv _ => n - (intOf iv).toNat)
  case atStart => exact ⟨0, [], by omega, rfl, by simpa [parF] using hstart, by simp [Hid, parF, F32s.nil], e0⟩
  case round =>
    clear hstart e0
    obtain ⟨i, vs, hi, rfl, own0, HF, he⟩ := hrel
    have hB := he.size
    have g0 := he.cell f0
    by_cases hlt : i < n
    · have hil : i < l.length := by rw [HL.out]; exact hlt
      obtain ⟨ci, hci, ri⟩ := a5.get i l[i] (by simp)
      obtain ⟨pw, cw, pb, cb, us, ws, rfl, k1, k2, k3, k4, k5, k6⟩ := lay_nums ri
      have hpl := HP.out (i + 1)
      have hpt := parF_take hil
      rw [hpt, List.length_append, List.length_append] at hpl
      have hs1 := a2.some_of a6 (by decide) (show 0 < css.length by omega)
      have hp := a2.ext he
      generalize hx : parF (l.take i) = xs at *
      generalize l[i] = d at *
      have Hpt := hid hpt
      have u1 := k2.1
      have u2 := k5.1
      have o1 := hid k2.one
      have o2 := hid k5.one
      clear hpt hx ri a5 HP
      go_wp2_with (first
        | ((with_reducible show wpList _ _ _ (Oper.mk _ (Op.indexAddr _ _ _) _ _ _ _ :: Oper.mk _ (Op.fieldAddr _ _ _) _ _ _ _ :: _) _ _); refine wl_ldField (f := 3) (off := 3) (j := i) rfl rfl rfl rfl rfl rfl (fun _ => rfl) (fun _ _ => rfl) fo_implLayer_3 rfl rfl rfl hp a6 a7 hlt hs1 hci rfl ?_)
        | ((with_reducible show wpList _ _ _ (Oper.mk _ (Op.call _) _ _ _ _ :: _) _ _); refine wl_appz rfl rfl rfl rfl own0 (k1.ext he) (by rw [u1, Nat.mul_one]) k3 o1.out (by unfold maxLen; omega) (by omega) (by omega) ?_; intro v1 w1 own1 g1; have e1 := he.grown g1 (fun k hk => own_le own0 k hk); have g01 := e1.cell f0; have hp1 := a2.ext e1; have hB1 := e1.size)
        | ((with_reducible show wpList _ _ _ (Oper.mk _ (Op.indexAddr _ _ _) _ _ _ _ :: Oper.mk _ (Op.fieldAddr _ _ _) _ _ _ _ :: _) _ _); refine wl_ldField (f := 4) (off := 4) (j := i) rfl rfl rfl rfl rfl rfl (fun _ => rfl) (fun _ _ => rfl) fo_implLayer_4 rfl rfl rfl hp1 a6 a7 hlt hs1 hci rfl ?_)
        | ((with_reducible show wpList _ _ _ (Oper.mk _ (Op.call _) _ _ _ _ :: _) _ _); refine wl_appz rfl rfl rfl rfl own1 (k4.ext e1) (by rw [u2, Nat.mul_one]) k6 o2.out (by unfold maxLen; omega) (by omega) hB1 ?_; intro v2 w2 own2 g2))
      go_roundw
      case rel =>
        refine ⟨i + 1, (vs ++ us) ++ ws, by omega, by go_num, ?_, ?_, e1.grown g2 (fun k hk => own_le own1 k hk)⟩
        · rw [Hpt.out, List.length_append, List.length_append, ← Nat.add_assoc]; exact own2
        · rw [Hid, Hpt.out, ← List.append_assoc]; exact (HF.out.app k2).app k5
      case measure => simp [intOf]; omega
    · obtain rfl : i = n := by omega
      have ht : l.take i = l := List.take_of_length_le (by rw [HL.out]; exact Nat.le_refl _)
      rw [ht] at own0 HF
      go_wp2
      go_ret
      exact retFl_of rfl own0 HF.out rfl he
end Go.Proofs.Ytnlhahlegedlaaa
