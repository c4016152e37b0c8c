/- Requests: which are valid. -/
import Derived.Test.YtangnigplachdaaKc
import Derived.Test.YtangnigplachdaaKe
import Derived.Test.YtangnigplachdaaHRequestS
import Derived.Test.YtangnigplachdaaHAnswerS
import Derived.Test.YtangnigplachdaaKf
import Derived.Test.YtangnigplachdaaMax
namespace Go.Proofs.Ytangnigplachdaa
set_option linter.unusedSimpArgs false
set_option linter.unusedVariables false
open Go.RowKit

/-- Not before the one before it. -/
def ordB : Option Int → Int → Bool
  | none, _ => true
  | some a, b => !decide (b < a)
def reqGo (I : Int) : Option Int → List shRequest.T → Bool
  | _, [] => true
  | p, d :: t => inB d.1 0 100000 && (ordB p d.1 && (decide (((d.2.1 : List Nat).length : Int) = I) && reqGo I (some d.1) t))
def prevA (l : List shRequest.T) : Nat → Option Int
  | 0 => none
  | i + 1 => l[i]?.map fun d => d.1
theorem reqGo_at {I : Int} {l : List shRequest.T} {i : Nat} (hi : i < l.length) (p : Option Int) :
    reqGo I p (l.drop i) = (inB l[i].1 0 100000 && (ordB p l[i].1 && (decide (((l[i].2.1 : List Nat).length : Int) = I) && reqGo I (prevA l (i + 1)) (l.drop (i + 1))))) := by
  rw [List.drop_eq_getElem_cons hi]
  simp [reqGo, prevA, hi]
def reqB (L : List shLayer.T) (l : List shRequest.T) : Bool := modB L && (decide (l.length ≤ 20) && reqGo (inL L 0) none l)
/-- What arrives when. -/
def atR (l : List shRequest.T) (i : Nat) : Int := (l[i]?.map fun d => d.1).getD 0
def rowR (l : List shRequest.T) (i : Nat) : List Nat := (l[i]?.map fun d => d.2.1).getD []
theorem atR_eq {l : List shRequest.T} {i : Nat} (h : i < l.length) : atR l i = l[i].1 := by simp [atR, h]
theorem rowR_eq {l : List shRequest.T} {i : Nat} (h : i < l.length) : rowR l i = l[i].2.1 := by simp [rowR, h]
theorem reqGo_all {I : Int} {l : List shRequest.T} : ∀ {i : Nat} {p : Option Int}, reqGo I p l = true → ∀ (h : i < l.length), 0 ≤ l[i].1 ∧ l[i].1 ≤ 100000 ∧ ((l[i].2.1 : List Nat).length : Int) = I ∧ (∀ a, p = some a → a ≤ l[i].1 ∨ 0 < i) ∧ ∀ (h' : i + 1 < l.length), l[i].1 ≤ l[i + 1].1 := by
  induction l with
  | nil => intro i p _ h; simp at h
  | cons d t ih =>
    intro i p hm h
    simp only [reqGo, Bool.and_eq_true] at hm
    obtain ⟨h1, h2, h3, h4⟩ := hm
    have h1' := inB_true.1 h1
    cases i with
    | zero =>
      refine ⟨h1'.1, h1'.2, by simpa using h3, fun a ha => ?_, fun h' => ?_⟩
      · subst ha
        left
        simp only [ordB, Bool.not_eq_true', decide_eq_false_iff_not] at h2
        simpa using h2
      · cases t with
        | nil => simp at h'
        | cons d2 t2 =>
          simp only [reqGo, Bool.and_eq_true, ordB, Bool.not_eq_true', decide_eq_false_iff_not] at h4
          exact Int.not_lt.1 h4.2.1
    | succ i =>
      obtain ⟨g1, g2, g3, _, g5⟩ := ih (i := i) h4 (by simpa using h)
      exact ⟨g1, g2, g3, fun _ _ => .inr (by omega), fun h' => g5 (by simpa using h')⟩
structure ReqOk (I : Int) (l : List shRequest.T) : Prop where
  lo : ∀ i, i < l.length → 0 ≤ atR l i ∧ atR l i ≤ 100000
  len : ∀ i, i < l.length → ((rowR l i).length : Int) = I
  mono : ∀ i, i + 1 < l.length → atR l i ≤ atR l (i + 1)
theorem reqOk {I : Int} {l : List shRequest.T} (h : reqGo I none l = true) : ReqOk I l := by
  refine ⟨fun i hi => ?_, fun i hi => ?_, fun i hi => ?_⟩
  · rw [atR_eq hi]; obtain ⟨h1, h2, _⟩ := reqGo_all h hi; exact ⟨h1, h2⟩
  · rw [rowR_eq hi]; exact (reqGo_all h hi).2.2.1
  · rw [atR_eq hi, atR_eq (show i < l.length by omega)]; exact (reqGo_all h (show i < l.length by omega)).2.2.2.2 hi
theorem ReqOk.le {I : Int} {l : List shRequest.T} (h : ReqOk I l) {i : Nat} : ∀ k, i + k < l.length → atR l i ≤ atR l (i + k)
  | 0, _ => Int.le_refl _
  | k + 1, hk => Int.le_trans (h.le k (by omega)) (h.mono (i + k) hk)
/-- Requests behind a slice. -/
structure Reqs (w : World) (p : Option Addr) (n : Nat) (css : List (List Value)) (l : List shRequest.T) : Prop where
  cs : Cs w p css.flatten
  all : All2 (Rep w shRequest) css l
  size : ∀ c ∈ css, c.length = shRequest.sz
  len : l.length = n
  cnt : css.length = n
  le : n ≤ maxLen
theorem Reqs.ext {w w' : World} {p : Option Addr} {n : Nat} {css : List (List Value)} {l : List shRequest.T} (h : Reqs w p n css l) (e : Ext w w') : Reqs w' p n css l :=
  ⟨h.cs.ext e, h.all.imp fun _ _ => Rep.ext e, h.size, h.len, h.cnt, h.le⟩
theorem reqs_of {w : World} {cs : List Value} {l : List shRequest.T} (h : Rep w shRequestS cs l) : ∃ p c css, cs = [.slice p l.length c] ∧ l.length ≤ c ∧ Reqs w p l.length css l := by
  obtain ⟨p, c, css, rfl, a2, a3, a4, a5, a6, a7⟩ := rep_sl h
  exact ⟨p, c, css, rfl, a3, a2, a5, a6, rfl, a7, Nat.le_trans a3 a4⟩
theorem req_cells {w : World} {cs : List Value} {d : shRequest.T} (h : Rep w shRequest cs d) : ∃ p c, cs = [.int .i64 d.1, .slice p (d.2.1 : List Nat).length c] ∧ Rep w (.sl .flt) [.slice p (d.2.1 : List Nat).length c] d.2.1 ∧ (d.2.1 : List Nat).length ≤ maxLen := by
  obtain ⟨a1, a2, au⟩ := d
  obtain ⟨_, _, rfl, rfl, _, _, rfl, h2, rfl⟩ := h
  obtain ⟨p, c, rfl, h3⟩ := rep_val h2
  exact ⟨p, c, rfl, h2, h3⟩
theorem cs_cellq {w : World} {g : Nat} {cs : List Value} (h : Cs w (some ⟨g, 0, none⟩) cs) (j : Nat) {v : Value} (hv : cs[j]? = some v) : w.cell? ⟨g, j, none⟩ = some v := by have := h.cell j v hv; rwa [adr_row] at this
set_option maxRecDepth 100000 in
set_option maxHeartbeats 4000000 in
theorem areRequests_any (p q : Option Addr) (n c nq cq : Nat) (css csq : List (List Value)) (L : List shLayer.T) (l : List shRequest.T) (w : World) (HLay : Lays w p n css L) (HReq : Reqs w q nq csq l) :
    Calls Try.prog 119 #[.agg #[.slice p n c], .slice q nq cq] w (RetB w (reqB L l)) := by
  have hnq := HReq.le
  unfold maxLen at hnq
  have V := hid (fun W (h : Ext w W) => ValidModel_any p n c L css W HLay.len HLay.le (HLay.cs.ext h) (HLay.all.imp fun _ _ => Rep.ext h) HLay.size HLay.cnt)
  have A0 := hid (fun W (h : Ext w W) h1 => in_any p n c css L W (HLay.ext h) h1)
  have HL := hid HReq.len
  have hpos : modB L = true → 1 ≤ n := fun h => by have := (modOk h).pos; rwa [HLay.len] at this
  obtain ⟨W0, hW0⟩ : ∃ W0, W0 = w.alloc (.cells #[.slice p n c] 32) := ⟨_, rfl⟩
  have E0 : Ext w W0 := by subst hW0; exact Ext.alloc _ _
  have a0 : W0.cell? ⟨w.heap.size, 0, none⟩ = some (.slice p n c) := by subst hW0; simp
  have l1 := HReq.cs; have l2 := HReq.all; have l3 := HReq.size; have l5 := hid HReq.cnt
  unfold reqB
  rw [HL.out]
  clear HReq HLay
  cases hM : modB L
  · rw [Bool.false_and]
    rw [hM] at V
    go_enter Try.func119, Try.ntmps119
    go_wp2_with fail
    rw [← hW0]
    refine (V.out _ E0).mono ?_
    rintro e w1 ⟨rfl, e1⟩
    go_wp2
    go_ret
    exact ⟨rfl, E0.trans e1⟩
  · rw [Bool.true_and]
    rw [hM] at V
    have A := hid (fun W (h : Ext W0 W) => A0.out W (E0.trans h) (hpos hM))
    clear A0 hpos hM
    by_cases h20 : nq ≤ 20
    · rw [decide_eq_true h20, Bool.true_and]
      have hgt : decide ((nq : Int) > 20) = false := by simp; omega
      have hgt2 : decide (20 < (nq : Int)) = false := by simp; omega
      generalize hG0 : reqGo (inL L 0) none l = G
      generalize inL L 0 = I at *
      have HG := hid hG0
      clear hG0
      go_enter Try.func119, Try.ntmps119
      go_wp2_with fail
      rw [← hW0]
      clear hW0
      refine (V.out _ E0).mono ?_
      rintro e w1 ⟨rfl, e1⟩
      clear V
      go_wp2
      go_loopw [17] (fun iv wr => ∃ (i : Nat), i ≤ nq ∧ iv = .int .i64 i ∧ Hid (reqGo I (prevA l i) (l.drop i) = G) ∧ Ext W0 wr) (fun iv _ => nq - (intOf iv).toNat)
      case atStart => exact ⟨0, by omega, rfl, by simpa [Hid, prevA] using HG.out, e1⟩
      case round =>
        clear HG e1
        obtain ⟨i, hi, rfl, HI, he⟩ := hrel
        by_cases hlt : i < nq
        · have hil : i < l.length := by rw [HL.out]; exact hlt
          obtain ⟨ci, hci, ri⟩ := l2.get i l[i] (by simp)
          have hs1 := l1.some_of l3 (by decide) (show 0 < csq.length by rw [l5.out]; omega)
          have hp := l1.ext (E0.trans he)
          have one := ri.one
          obtain ⟨pr, cr, rfl, rr, hm⟩ := req_cells ri
          have hst := HI.out
          rw [reqGo_at hil] at hst
          clear HI ri rr
          unfold maxLen at hm
          generalize hd : l[i] = d at *
          obtain ⟨tA, xr, du⟩ := d
          dsimp only at hci hst one hm
          generalize xr.length = m at *
          cases hin : inB tA 0 100000
          · have HIN := hid hin
            rw [hin, Bool.false_and] at hst
            have hG := hid hst
            clear hst hd
            go_wp2_with (first | ((with_reducible show wpList _ _ _ (Oper.mk _ (Op.indexAddr _ _ _) _ _ _ _ :: Oper.mk _ (Op.load _ _) _ _ _ _ :: _) _ _); refine wl_idxloadE (s := shRequest) (j := i) rfl rfl rfl rfl (fun _ => rfl) rfl rfl (by first | rfl | omega) hp l3 l5.out hlt hs1 hci ?_; simp only [ofCs, Sh.agg, if_true]) | ((with_reducible show wpList _ _ _ (Oper.mk _ (Op.store _ _ _) _ _ _ _ :: _) _ _); refine wl_stA (s := shRequest) (cs := [.int .i64 tA, .slice pr m cr]) rfl rfl rfl rfl (heap_alloc_new _ _) rfl rfl one (by decide) ?_; intro w5 c5 ch5; have E5 : Ext wr w5 := (Ext.alloc _ _).chg ch5 (fun b hb => by subst hb; exact Nat.le_refl _); clear ch5))
            have hD := Ext.drew w5
            have b0 := hD.cell (cs_cellq c5 0 rfl)
            have b1 := hD.cell (cs_cellq c5 1 rfl)
            have m0 := (he.trans (E5.trans hD)).cell a0
            have hpD := hp.ext (E5.trans hD)
            have hWD := he.trans (E5.trans hD)
            clear c5
            obtain ⟨F, hF⟩ : ∃ F : Option Tmp → World → Value → Prop, F = fun d _ u => match d with | some 24 => u = .bool false | _ => u = .int .i64 I := ⟨_, rfl⟩
            have HF := hid hF
            clear hF
            refine wp_region_xall (F := F) (by kernel_rfl) (by kernel_rfl) (by kernel_rfl) ?_
            intro wf hwf
            repeat (first
              | (refine x_skip rfl ?_; simp only [Act.put, ev_tmp, List.setIfInBounds_toArray, List.set_cons_succ, List.set_cons_zero, List.getD_cons_succ, List.getD_cons_zero])
              | (refine x_mv rfl rfl rfl ?_; simp only [Act.put, ev_tmp, List.setIfInBounds_toArray, List.set_cons_succ, List.set_cons_zero, List.getD_cons_succ, List.getD_cons_zero])
              | (refine x_as rfl rfl rfl ?_; simp only [Act.put, ev_tmp, List.setIfInBounds_toArray, List.set_cons_succ, List.set_cons_zero, List.getD_cons_succ, List.getD_cons_zero])
              | ((with_reducible show wpX _ _ _ _ _ _ (Oper.mk _ (Op.call _) _ _ _ _ :: _) _); refine x_callf (f := 121) (args := #[.int .i64 tA, .int .i64 0, .int .i64 100000]) rfl rfl Try.func121 rfl (by kernel_rfl) ?_ ?_ ?_; (focus (simp [Act.eval]; done)); (focus (intro w1 hw1; exact (by rw [HF.out]; exact calls_same (by have h := within_any tA 0 100000 w1; rw [HIN.out] at h; exact h)))); rintro u w3 e3 e4 hu; simp only [HF.out] at hu; subst hu; simp only [Act.put, ev_tmp, List.setIfInBounds_toArray, List.set_cons_succ, List.set_cons_zero, List.getD_cons_succ, List.getD_cons_zero])
              | (refine x_run rfl fun K hK w1 hw1 => ?_; have k0 := hw1.cell (b0); have k1 := hw1.cell (b1); have k2 := hw1.cell (m0); go_simp; refine hK _ ?_; clear hK K k0 k1 k2 hw1 w1))
            refine x_nil ?_
            go_wp2
            go_ret
            exact ⟨by rw [← hG.out]; rfl, (E0.trans hWD).trans hwf⟩
          · have HIN := hid hin
            rw [hin, Bool.true_and] at hst
            rcases Nat.eq_zero_or_pos i with h0 | h0
            · subst h0
              have ho : ordB (prevA l 0) tA = true := rfl
              rw [ho, Bool.true_and] at hst
              by_cases hm2 : (m : Int) = I
              · have Hst := hid (show reqGo I (prevA l 1) (l.drop 1) = G by rw [← hst]; simp [hm2])
                have hE := bne_f hm2
                clear hst hd ho hm2
                go_wp2_with (first | ((with_reducible show wpList _ _ _ (Oper.mk _ (Op.indexAddr _ _ _) _ _ _ _ :: Oper.mk _ (Op.load _ _) _ _ _ _ :: _) _ _); refine wl_idxloadE (s := shRequest) (j := 0) rfl rfl rfl rfl (fun _ => rfl) rfl rfl (by first | rfl | omega) hp l3 l5.out hlt hs1 hci ?_; simp only [ofCs, Sh.agg, if_true]) | ((with_reducible show wpList _ _ _ (Oper.mk _ (Op.store _ _ _) _ _ _ _ :: _) _ _); refine wl_stA (s := shRequest) (cs := [.int .i64 tA, .slice pr m cr]) rfl rfl rfl rfl (heap_alloc_new _ _) rfl rfl one (by decide) ?_; intro w5 c5 ch5; have E5 : Ext wr w5 := (Ext.alloc _ _).chg ch5 (fun b hb => by subst hb; exact Nat.le_refl _); clear ch5))
                have hD := Ext.drew w5
                have b0 := hD.cell (cs_cellq c5 0 rfl)
                have b1 := hD.cell (cs_cellq c5 1 rfl)
                have m0 := (he.trans (E5.trans hD)).cell a0
                have hpD := hp.ext (E5.trans hD)
                have hWD := he.trans (E5.trans hD)
                clear c5
                obtain ⟨F, hF⟩ : ∃ F : Option Tmp → World → Value → Prop, F = fun d _ u => match d with | some 24 => u = .bool true | _ => u = .int .i64 I := ⟨_, rfl⟩
                have HF := hid hF
                clear hF
                refine wp_region_xall (F := F) (by kernel_rfl) (by kernel_rfl) (by kernel_rfl) ?_
                intro wf hwf
                repeat (first
                  | (refine x_skip rfl ?_; simp only [Act.put, ev_tmp, List.setIfInBounds_toArray, List.set_cons_succ, List.set_cons_zero, List.getD_cons_succ, List.getD_cons_zero])
                  | (refine x_mv rfl rfl rfl ?_; simp only [Act.put, ev_tmp, List.setIfInBounds_toArray, List.set_cons_succ, List.set_cons_zero, List.getD_cons_succ, List.getD_cons_zero])
                  | (refine x_as rfl rfl rfl ?_; simp only [Act.put, ev_tmp, List.setIfInBounds_toArray, List.set_cons_succ, List.set_cons_zero, List.getD_cons_succ, List.getD_cons_zero])
                  | ((with_reducible show wpX _ _ _ _ _ _ (Oper.mk _ (Op.call _) _ _ _ _ :: _) _); refine x_callf (f := 121) (args := #[.int .i64 tA, .int .i64 0, .int .i64 100000]) rfl rfl Try.func121 rfl (by kernel_rfl) ?_ ?_ ?_; (focus (simp [Act.eval]; done)); (focus (intro w1 hw1; exact (by rw [HF.out]; exact calls_same (by have h := within_any tA 0 100000 w1; rw [HIN.out] at h; exact h)))); rintro u w3 e3 e4 hu; simp only [HF.out] at hu; subst hu; simp only [Act.put, ev_tmp, List.setIfInBounds_toArray, List.set_cons_succ, List.set_cons_zero, List.getD_cons_succ, List.getD_cons_zero])
                  | ((with_reducible show wpX _ _ _ _ _ _ (Oper.mk _ (Op.call _) _ _ _ _ :: _) _); refine x_callf (f := 85) (args := #[.agg #[.slice p n c]]) rfl rfl Try.func85 rfl (by kernel_rfl) ?_ ?_ ?_; (focus (simp [Act.eval]; done)); (focus (intro w1 hw1; exact (by rw [HF.out]; exact (A.out w1 (hWD.trans hw1)).mono fun e w3 h => ⟨_, h.1, h.2, rfl⟩))); rintro u w3 e3 e4 hu; simp only [HF.out] at hu; subst hu; simp only [Act.put, ev_tmp, List.setIfInBounds_toArray, List.set_cons_succ, List.set_cons_zero, List.getD_cons_succ, List.getD_cons_zero])
                  | (refine x_run rfl fun K hK w1 hw1 => ?_; have k0 := hw1.cell (b0); have k1 := hw1.cell (b1); have k2 := hw1.cell (m0); go_simp; refine hK _ ?_; clear hK K k0 k1 k2 hw1 w1))
                refine x_nil ?_
                go_wp2
                go_roundw
                case rel => exact ⟨1, by omega, by go_num, Hst.out, hWD.trans hwf⟩
                case measure => simp [intOf]; omega
              · have hG := hid (show false = G by rw [← hst]; simp [hm2])
                have hE := bne_t hm2
                clear hst hd ho hm2
                go_wp2_with (first | ((with_reducible show wpList _ _ _ (Oper.mk _ (Op.indexAddr _ _ _) _ _ _ _ :: Oper.mk _ (Op.load _ _) _ _ _ _ :: _) _ _); refine wl_idxloadE (s := shRequest) (j := 0) rfl rfl rfl rfl (fun _ => rfl) rfl rfl (by first | rfl | omega) hp l3 l5.out hlt hs1 hci ?_; simp only [ofCs, Sh.agg, if_true]) | ((with_reducible show wpList _ _ _ (Oper.mk _ (Op.store _ _ _) _ _ _ _ :: _) _ _); refine wl_stA (s := shRequest) (cs := [.int .i64 tA, .slice pr m cr]) rfl rfl rfl rfl (heap_alloc_new _ _) rfl rfl one (by decide) ?_; intro w5 c5 ch5; have E5 : Ext wr w5 := (Ext.alloc _ _).chg ch5 (fun b hb => by subst hb; exact Nat.le_refl _); clear ch5))
                have hD := Ext.drew w5
                have b0 := hD.cell (cs_cellq c5 0 rfl)
                have b1 := hD.cell (cs_cellq c5 1 rfl)
                have m0 := (he.trans (E5.trans hD)).cell a0
                have hpD := hp.ext (E5.trans hD)
                have hWD := he.trans (E5.trans hD)
                clear c5
                obtain ⟨F, hF⟩ : ∃ F : Option Tmp → World → Value → Prop, F = fun d _ u => match d with | some 24 => u = .bool true | _ => u = .int .i64 I := ⟨_, rfl⟩
                have HF := hid hF
                clear hF
                refine wp_region_xall (F := F) (by kernel_rfl) (by kernel_rfl) (by kernel_rfl) ?_
                intro wf hwf
                repeat (first
                  | (refine x_skip rfl ?_; simp only [Act.put, ev_tmp, List.setIfInBounds_toArray, List.set_cons_succ, List.set_cons_zero, List.getD_cons_succ, List.getD_cons_zero])
                  | (refine x_mv rfl rfl rfl ?_; simp only [Act.put, ev_tmp, List.setIfInBounds_toArray, List.set_cons_succ, List.set_cons_zero, List.getD_cons_succ, List.getD_cons_zero])
                  | (refine x_as rfl rfl rfl ?_; simp only [Act.put, ev_tmp, List.setIfInBounds_toArray, List.set_cons_succ, List.set_cons_zero, List.getD_cons_succ, List.getD_cons_zero])
                  | ((with_reducible show wpX _ _ _ _ _ _ (Oper.mk _ (Op.call _) _ _ _ _ :: _) _); refine x_callf (f := 121) (args := #[.int .i64 tA, .int .i64 0, .int .i64 100000]) rfl rfl Try.func121 rfl (by kernel_rfl) ?_ ?_ ?_; (focus (simp [Act.eval]; done)); (focus (intro w1 hw1; exact (by rw [HF.out]; exact calls_same (by have h := within_any tA 0 100000 w1; rw [HIN.out] at h; exact h)))); rintro u w3 e3 e4 hu; simp only [HF.out] at hu; subst hu; simp only [Act.put, ev_tmp, List.setIfInBounds_toArray, List.set_cons_succ, List.set_cons_zero, List.getD_cons_succ, List.getD_cons_zero])
                  | ((with_reducible show wpX _ _ _ _ _ _ (Oper.mk _ (Op.call _) _ _ _ _ :: _) _); refine x_callf (f := 85) (args := #[.agg #[.slice p n c]]) rfl rfl Try.func85 rfl (by kernel_rfl) ?_ ?_ ?_; (focus (simp [Act.eval]; done)); (focus (intro w1 hw1; exact (by rw [HF.out]; exact (A.out w1 (hWD.trans hw1)).mono fun e w3 h => ⟨_, h.1, h.2, rfl⟩))); rintro u w3 e3 e4 hu; simp only [HF.out] at hu; subst hu; simp only [Act.put, ev_tmp, List.setIfInBounds_toArray, List.set_cons_succ, List.set_cons_zero, List.getD_cons_succ, List.getD_cons_zero])
                  | (refine x_run rfl fun K hK w1 hw1 => ?_; have k0 := hw1.cell (b0); have k1 := hw1.cell (b1); have k2 := hw1.cell (m0); go_simp; refine hK _ ?_; clear hK K k0 k1 k2 hw1 w1))
                refine x_nil ?_
                go_wp2
                go_ret
                exact ⟨by rw [← hG.out]; rfl, (E0.trans hWD).trans hwf⟩
            · obtain ⟨j, rfl⟩ : ∃ j, i = j + 1 := ⟨i - 1, by omega⟩
              obtain ⟨cj, hcj, rj⟩ := l2.get j l[j] (by simp)
              obtain ⟨pj, cj', rfl, _, _⟩ := req_cells rj
              have ho : ordB (prevA l (j + 1)) tA = !decide (tA < l[j].1) := by simp [prevA, ordB, show j < l.length by omega]
              rw [ho] at hst
              have hA : IntKind.i64.wrap (((j + 1 : Nat) : Int) - 1) = (j : Int) := by rw [show ((j + 1 : Nat) : Int) - 1 = (j : Int) by omega]; exact wrap_in _ (by omega) (by omega)
              have hB : IntKind.i64.wrap ((j : Int) + 1 - 1) = (j : Int) := by rw [show (j : Int) + 1 - 1 = (j : Int) by omega]; exact wrap_in _ (by omega) (by omega)
              have hC : IntKind.i64.wrap (j : Int) = (j : Int) := wrap_in _ (by omega) (by omega)
              clear rj ho
              generalize l[j].1 = tB at *
              by_cases hlt2 : tA < tB
              · have hG := hid (show false = G by rw [← hst]; simp [hlt2])
                have hT := decide_eq_true hlt2
                clear hst hd
                go_wp2_with (first | ((with_reducible show wpList _ _ _ (Oper.mk _ (Op.indexAddr _ _ _) _ _ _ _ :: Oper.mk _ (Op.load _ _) _ _ _ _ :: _) _ _); refine wl_idxloadE (s := shRequest) (j := (j + 1)) rfl rfl rfl rfl (fun _ => rfl) rfl rfl (by first | rfl | omega) hp l3 l5.out hlt hs1 hci ?_; simp only [ofCs, Sh.agg, if_true]) | ((with_reducible show wpList _ _ _ (Oper.mk _ (Op.store _ _ _) _ _ _ _ :: _) _ _); refine wl_stA (s := shRequest) (cs := [.int .i64 tA, .slice pr m cr]) rfl rfl rfl rfl (heap_alloc_new _ _) rfl rfl one (by decide) ?_; intro w5 c5 ch5; have E5 : Ext wr w5 := (Ext.alloc _ _).chg ch5 (fun b hb => by subst hb; exact Nat.le_refl _); clear ch5))
                have hD := Ext.drew w5
                have b0 := hD.cell (cs_cellq c5 0 rfl)
                have b1 := hD.cell (cs_cellq c5 1 rfl)
                have m0 := (he.trans (E5.trans hD)).cell a0
                have hpD := hp.ext (E5.trans hD)
                have hWD := he.trans (E5.trans hD)
                clear c5
                obtain ⟨F, hF⟩ : ∃ F : Option Tmp → World → Value → Prop, F = fun d _ u => match d with | some 24 => u = .bool true | _ => u = .int .i64 I := ⟨_, rfl⟩
                have HF := hid hF
                clear hF
                refine wp_region_xall (F := F) (by kernel_rfl) (by kernel_rfl) (by kernel_rfl) ?_
                intro wf hwf
                repeat (first
                  | (refine x_skip rfl ?_; simp only [Act.put, ev_tmp, List.setIfInBounds_toArray, List.set_cons_succ, List.set_cons_zero, List.getD_cons_succ, List.getD_cons_zero])
                  | (refine x_mv rfl rfl rfl ?_; simp only [Act.put, ev_tmp, List.setIfInBounds_toArray, List.set_cons_succ, List.set_cons_zero, List.getD_cons_succ, List.getD_cons_zero])
                  | (refine x_as rfl rfl rfl ?_; simp only [Act.put, ev_tmp, List.setIfInBounds_toArray, List.set_cons_succ, List.set_cons_zero, List.getD_cons_succ, List.getD_cons_zero])
                  | ((with_reducible show wpX _ _ _ _ _ _ (Oper.mk _ (Op.call _) _ _ _ _ :: _) _); refine x_callf (f := 121) (args := #[.int .i64 tA, .int .i64 0, .int .i64 100000]) rfl rfl Try.func121 rfl (by kernel_rfl) ?_ ?_ ?_; (focus (simp [Act.eval]; done)); (focus (intro w1 hw1; exact (by rw [HF.out]; exact calls_same (by have h := within_any tA 0 100000 w1; rw [HIN.out] at h; exact h)))); rintro u w3 e3 e4 hu; simp only [HF.out] at hu; subst hu; simp only [Act.put, ev_tmp, List.setIfInBounds_toArray, List.set_cons_succ, List.set_cons_zero, List.getD_cons_succ, List.getD_cons_zero])
                  | ((with_reducible show wpX _ _ _ _ _ _ (Oper.mk _ (Op.indexAddr _ _ _) _ _ _ _ :: Oper.mk _ (Op.fieldAddr _ _ _) _ _ _ _ :: Oper.mk _ (Op.load _ _) _ _ _ _ :: _) _); refine x_ldField (f := 0) (off := 0) (j := j) rfl rfl (fun _ => rfl) rfl (fun _ _ => rfl) rfl (fun _ => rfl) (fun _ _ => rfl) fo_implRequest_0 rfl rfl (by first | exact hA | exact hB | exact hC | omega) hpD l3 l5.out (by omega) hs1 hcj rfl ?_; simp only [Act.put, ev_tmp, List.setIfInBounds_toArray, List.set_cons_succ, List.set_cons_zero, List.getD_cons_succ, List.getD_cons_zero])
                  | (refine x_run rfl fun K hK w1 hw1 => ?_; have k0 := hw1.cell (b0); have k1 := hw1.cell (b1); have k2 := hw1.cell (m0); go_simp; refine hK _ ?_; clear hK K k0 k1 k2 hw1 w1))
                refine x_nil ?_
                go_wp2
                go_ret
                exact ⟨by rw [← hG.out]; rfl, (E0.trans hWD).trans hwf⟩
              · have hT := decide_eq_false hlt2
                rw [hT, Bool.not_false, Bool.true_and] at hst
                by_cases hm2 : (m : Int) = I
                · have Hst := hid (show reqGo I (prevA l (j + 1 + 1)) (l.drop (j + 1 + 1)) = G by rw [← hst]; simp [hm2])
                  have hE := bne_f hm2
                  clear hst hd hm2 hlt2
                  go_wp2_with (first | ((with_reducible show wpList _ _ _ (Oper.mk _ (Op.indexAddr _ _ _) _ _ _ _ :: Oper.mk _ (Op.load _ _) _ _ _ _ :: _) _ _); refine wl_idxloadE (s := shRequest) (j := (j + 1)) rfl rfl rfl rfl (fun _ => rfl) rfl rfl (by first | rfl | omega) hp l3 l5.out hlt hs1 hci ?_; simp only [ofCs, Sh.agg, if_true]) | ((with_reducible show wpList _ _ _ (Oper.mk _ (Op.store _ _ _) _ _ _ _ :: _) _ _); refine wl_stA (s := shRequest) (cs := [.int .i64 tA, .slice pr m cr]) rfl rfl rfl rfl (heap_alloc_new _ _) rfl rfl one (by decide) ?_; intro w5 c5 ch5; have E5 : Ext wr w5 := (Ext.alloc _ _).chg ch5 (fun b hb => by subst hb; exact Nat.le_refl _); clear ch5))
                  have hD := Ext.drew w5
                  have b0 := hD.cell (cs_cellq c5 0 rfl)
                  have b1 := hD.cell (cs_cellq c5 1 rfl)
                  have m0 := (he.trans (E5.trans hD)).cell a0
                  have hpD := hp.ext (E5.trans hD)
                  have hWD := he.trans (E5.trans hD)
                  clear c5
                  obtain ⟨F, hF⟩ : ∃ F : Option Tmp → World → Value → Prop, F = fun d _ u => match d with | some 24 => u = .bool true | _ => u = .int .i64 I := ⟨_, rfl⟩
                  have HF := hid hF
                  clear hF
                  refine wp_region_xall (F := F) (by kernel_rfl) (by kernel_rfl) (by kernel_rfl) ?_
                  intro wf hwf
                  repeat (first
                    | (refine x_skip rfl ?_; simp only [Act.put, ev_tmp, List.setIfInBounds_toArray, List.set_cons_succ, List.set_cons_zero, List.getD_cons_succ, List.getD_cons_zero])
                    | (refine x_mv rfl rfl rfl ?_; simp only [Act.put, ev_tmp, List.setIfInBounds_toArray, List.set_cons_succ, List.set_cons_zero, List.getD_cons_succ, List.getD_cons_zero])
                    | (refine x_as rfl rfl rfl ?_; simp only [Act.put, ev_tmp, List.setIfInBounds_toArray, List.set_cons_succ, List.set_cons_zero, List.getD_cons_succ, List.getD_cons_zero])
                    | ((with_reducible show wpX _ _ _ _ _ _ (Oper.mk _ (Op.call _) _ _ _ _ :: _) _); refine x_callf (f := 121) (args := #[.int .i64 tA, .int .i64 0, .int .i64 100000]) rfl rfl Try.func121 rfl (by kernel_rfl) ?_ ?_ ?_; (focus (simp [Act.eval]; done)); (focus (intro w1 hw1; exact (by rw [HF.out]; exact calls_same (by have h := within_any tA 0 100000 w1; rw [HIN.out] at h; exact h)))); rintro u w3 e3 e4 hu; simp only [HF.out] at hu; subst hu; simp only [Act.put, ev_tmp, List.setIfInBounds_toArray, List.set_cons_succ, List.set_cons_zero, List.getD_cons_succ, List.getD_cons_zero])
                    | ((with_reducible show wpX _ _ _ _ _ _ (Oper.mk _ (Op.indexAddr _ _ _) _ _ _ _ :: Oper.mk _ (Op.fieldAddr _ _ _) _ _ _ _ :: Oper.mk _ (Op.load _ _) _ _ _ _ :: _) _); refine x_ldField (f := 0) (off := 0) (j := j) rfl rfl (fun _ => rfl) rfl (fun _ _ => rfl) rfl (fun _ => rfl) (fun _ _ => rfl) fo_implRequest_0 rfl rfl (by first | exact hA | exact hB | exact hC | omega) hpD l3 l5.out (by omega) hs1 hcj rfl ?_; simp only [Act.put, ev_tmp, List.setIfInBounds_toArray, List.set_cons_succ, List.set_cons_zero, List.getD_cons_succ, List.getD_cons_zero])
                    | ((with_reducible show wpX _ _ _ _ _ _ (Oper.mk _ (Op.call _) _ _ _ _ :: _) _); refine x_callf (f := 85) (args := #[.agg #[.slice p n c]]) rfl rfl Try.func85 rfl (by kernel_rfl) ?_ ?_ ?_; (focus (simp [Act.eval]; done)); (focus (intro w1 hw1; exact (by rw [HF.out]; exact (A.out w1 (hWD.trans hw1)).mono fun e w3 h => ⟨_, h.1, h.2, rfl⟩))); rintro u w3 e3 e4 hu; simp only [HF.out] at hu; subst hu; simp only [Act.put, ev_tmp, List.setIfInBounds_toArray, List.set_cons_succ, List.set_cons_zero, List.getD_cons_succ, List.getD_cons_zero])
                    | (refine x_run rfl fun K hK w1 hw1 => ?_; have k0 := hw1.cell (b0); have k1 := hw1.cell (b1); have k2 := hw1.cell (m0); go_simp; refine hK _ ?_; clear hK K k0 k1 k2 hw1 w1))
                  refine x_nil ?_
                  go_wp2
                  go_roundw
                  case rel => exact ⟨j + 1 + 1, by omega, by go_num, Hst.out, hWD.trans hwf⟩
                  case measure => simp [intOf]; omega
                · have hG := hid (show false = G by rw [← hst]; simp [hm2])
                  have hE := bne_t hm2
                  clear hst hd hm2 hlt2
                  go_wp2_with (first | ((with_reducible show wpList _ _ _ (Oper.mk _ (Op.indexAddr _ _ _) _ _ _ _ :: Oper.mk _ (Op.load _ _) _ _ _ _ :: _) _ _); refine wl_idxloadE (s := shRequest) (j := (j + 1)) rfl rfl rfl rfl (fun _ => rfl) rfl rfl (by first | rfl | omega) hp l3 l5.out hlt hs1 hci ?_; simp only [ofCs, Sh.agg, if_true]) | ((with_reducible show wpList _ _ _ (Oper.mk _ (Op.store _ _ _) _ _ _ _ :: _) _ _); refine wl_stA (s := shRequest) (cs := [.int .i64 tA, .slice pr m cr]) rfl rfl rfl rfl (heap_alloc_new _ _) rfl rfl one (by decide) ?_; intro w5 c5 ch5; have E5 : Ext wr w5 := (Ext.alloc _ _).chg ch5 (fun b hb => by subst hb; exact Nat.le_refl _); clear ch5))
                  have hD := Ext.drew w5
                  have b0 := hD.cell (cs_cellq c5 0 rfl)
                  have b1 := hD.cell (cs_cellq c5 1 rfl)
                  have m0 := (he.trans (E5.trans hD)).cell a0
                  have hpD := hp.ext (E5.trans hD)
                  have hWD := he.trans (E5.trans hD)
                  clear c5
                  obtain ⟨F, hF⟩ : ∃ F : Option Tmp → World → Value → Prop, F = fun d _ u => match d with | some 24 => u = .bool true | _ => u = .int .i64 I := ⟨_, rfl⟩
                  have HF := hid hF
                  clear hF
                  refine wp_region_xall (F := F) (by kernel_rfl) (by kernel_rfl) (by kernel_rfl) ?_
                  intro wf hwf
                  repeat (first
                    | (refine x_skip rfl ?_; simp only [Act.put, ev_tmp, List.setIfInBounds_toArray, List.set_cons_succ, List.set_cons_zero, List.getD_cons_succ, List.getD_cons_zero])
                    | (refine x_mv rfl rfl rfl ?_; simp only [Act.put, ev_tmp, List.setIfInBounds_toArray, List.set_cons_succ, List.set_cons_zero, List.getD_cons_succ, List.getD_cons_zero])
                    | (refine x_as rfl rfl rfl ?_; simp only [Act.put, ev_tmp, List.setIfInBounds_toArray, List.set_cons_succ, List.set_cons_zero, List.getD_cons_succ, List.getD_cons_zero])
                    | ((with_reducible show wpX _ _ _ _ _ _ (Oper.mk _ (Op.call _) _ _ _ _ :: _) _); refine x_callf (f := 121) (args := #[.int .i64 tA, .int .i64 0, .int .i64 100000]) rfl rfl Try.func121 rfl (by kernel_rfl) ?_ ?_ ?_; (focus (simp [Act.eval]; done)); (focus (intro w1 hw1; exact (by rw [HF.out]; exact calls_same (by have h := within_any tA 0 100000 w1; rw [HIN.out] at h; exact h)))); rintro u w3 e3 e4 hu; simp only [HF.out] at hu; subst hu; simp only [Act.put, ev_tmp, List.setIfInBounds_toArray, List.set_cons_succ, List.set_cons_zero, List.getD_cons_succ, List.getD_cons_zero])
                    | ((with_reducible show wpX _ _ _ _ _ _ (Oper.mk _ (Op.indexAddr _ _ _) _ _ _ _ :: Oper.mk _ (Op.fieldAddr _ _ _) _ _ _ _ :: Oper.mk _ (Op.load _ _) _ _ _ _ :: _) _); refine x_ldField (f := 0) (off := 0) (j := j) rfl rfl (fun _ => rfl) rfl (fun _ _ => rfl) rfl (fun _ => rfl) (fun _ _ => rfl) fo_implRequest_0 rfl rfl (by first | exact hA | exact hB | exact hC | omega) hpD l3 l5.out (by omega) hs1 hcj rfl ?_; simp only [Act.put, ev_tmp, List.setIfInBounds_toArray, List.set_cons_succ, List.set_cons_zero, List.getD_cons_succ, List.getD_cons_zero])
                    | ((with_reducible show wpX _ _ _ _ _ _ (Oper.mk _ (Op.call _) _ _ _ _ :: _) _); refine x_callf (f := 85) (args := #[.agg #[.slice p n c]]) rfl rfl Try.func85 rfl (by kernel_rfl) ?_ ?_ ?_; (focus (simp [Act.eval]; done)); (focus (intro w1 hw1; exact (by rw [HF.out]; exact (A.out w1 (hWD.trans hw1)).mono fun e w3 h => ⟨_, h.1, h.2, rfl⟩))); rintro u w3 e3 e4 hu; simp only [HF.out] at hu; subst hu; simp only [Act.put, ev_tmp, List.setIfInBounds_toArray, List.set_cons_succ, List.set_cons_zero, List.getD_cons_succ, List.getD_cons_zero])
                    | (refine x_run rfl fun K hK w1 hw1 => ?_; have k0 := hw1.cell (b0); have k1 := hw1.cell (b1); have k2 := hw1.cell (m0); go_simp; refine hK _ ?_; clear hK K k0 k1 k2 hw1 w1))
                  refine x_nil ?_
                  go_wp2
                  go_ret
                  exact ⟨by rw [← hG.out]; rfl, (E0.trans hWD).trans hwf⟩
        · obtain rfl : i = nq := by omega
          have hst := HI.out
          rw [List.drop_of_length_le (by rw [HL.out]; exact Nat.le_refl _)] at hst
          have hst2 : G = true := by rw [← hst]; rfl
          subst hst2
          go_wp2
          go_ret
          exact ⟨rfl, E0.trans he⟩
    · rw [decide_eq_false h20, Bool.false_and]
      have hgt : decide ((nq : Int) > 20) = true := by simp; omega
      have hgt2 : decide (20 < (nq : Int)) = true := by simp; omega
      go_enter Try.func119, Try.ntmps119
      go_wp2_with fail
      rw [← hW0]
      refine (V.out _ E0).mono ?_
      rintro e w1 ⟨rfl, e1⟩
      go_wp2
      go_ret
      exact ⟨rfl, E0.trans e1⟩
end Go.Proofs.Ytangnigplachdaa
