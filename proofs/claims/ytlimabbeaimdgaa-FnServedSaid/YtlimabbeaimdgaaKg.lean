/- A part of the proofs: HAnswer, HAnswerS, HRequest, HRequestS, Max, Req, BSiz, LDel, Srv, SReq, ServP. -/
import Derived.Test.YtlimabbeaimdgaaKb
import Derived.Test.YtlimabbeaimdgaaKa
import Derived.Test.YtlimabbeaimdgaaKc
import Derived.Test.YtlimabbeaimdgaaKe
import Derived.Test.YtlimabbeaimdgaaKf
/- The harness on structs: Answer. -/
namespace Go.Proofs.Ytlimabbeaimdgaa
set_option linter.unusedSimpArgs false
set_option linter.unusedVariables false
open Go.RowKit

abbrev shAnswer : Sh := .pr .int (.pr .int (.pr (.sl .flt) (.un)))
theorem fo_implAnswer_0 (q : Addr) (w : World) : (Instr.fieldAt 85 (.pointer (some q)) 0).run Try.prog w = .ok (.pointer (some (q.add 0))) w := by go_simp
theorem fo_implAnswer_1 (q : Addr) (w : World) : (Instr.fieldAt 85 (.pointer (some q)) 1).run Try.prog w = .ok (.pointer (some (q.add 1))) w := by go_simp
theorem fo_implAnswer_2 (q : Addr) (w : World) : (Instr.fieldAt 85 (.pointer (some q)) 2).run Try.prog w = .ok (.pointer (some (q.add 2))) w := by go_simp
instance elStAnswerimpl : ElTy Try.prog 85 shAnswer := ⟨by kernel_rfl, by kernel_rfl⟩
end Go.Proofs.Ytlimabbeaimdgaa
/- The harness on lists: AnswerS. -/
namespace Go.Proofs.Ytlimabbeaimdgaa
set_option linter.unusedSimpArgs false
set_option linter.unusedVariables false
open Go.RowKit

abbrev shAnswerS : Sh := .sl shAnswer
instance slAnswerSimpl : SlTy Try.prog 77 85 3 (.agg #[.int .i64 0, .int .i64 0, .slice none 0 0]) 40 := ⟨by kernel_rfl, by kernel_rfl, by kernel_rfl, by decide, by decide⟩
instance szAnswerSimpl : SlTy Try.prog 77 85 (Sh.sz shAnswer) (.agg #[.int .i64 0, .int .i64 0, .slice none 0 0]) 40 := slAnswerSimpl
instance elAnswerSimpl : ElTy Try.prog 85 shAnswer := ⟨by kernel_rfl, by kernel_rfl⟩





end Go.Proofs.Ytlimabbeaimdgaa
/- The harness on structs: Request. -/
namespace Go.Proofs.Ytlimabbeaimdgaa
set_option linter.unusedSimpArgs false
set_option linter.unusedVariables false
open Go.RowKit

abbrev shRequest : Sh := .pr .int (.pr (.sl .flt) (.un))
theorem fo_implRequest_0 (q : Addr) (w : World) : (Instr.fieldAt 83 (.pointer (some q)) 0).run Try.prog w = .ok (.pointer (some (q.add 0))) w := by go_simp
theorem fo_implRequest_1 (q : Addr) (w : World) : (Instr.fieldAt 83 (.pointer (some q)) 1).run Try.prog w = .ok (.pointer (some (q.add 1))) w := by go_simp
instance elStRequestimpl : ElTy Try.prog 83 shRequest := ⟨by kernel_rfl, by kernel_rfl⟩
end Go.Proofs.Ytlimabbeaimdgaa
/- The harness on lists: RequestS. -/
namespace Go.Proofs.Ytlimabbeaimdgaa
set_option linter.unusedSimpArgs false
set_option linter.unusedVariables false
open Go.RowKit

abbrev shRequestS : Sh := .sl shRequest
instance slRequestSimpl : SlTy Try.prog 75 83 2 (.agg #[.int .i64 0, .slice none 0 0]) 32 := ⟨by kernel_rfl, by kernel_rfl, by kernel_rfl, by decide, by decide⟩
instance szRequestSimpl : SlTy Try.prog 75 83 (Sh.sz shRequest) (.agg #[.int .i64 0, .slice none 0 0]) 32 := slRequestSimpl
instance elRequestSimpl : ElTy Try.prog 83 shRequest := ⟨by kernel_rfl, by kernel_rfl⟩





end Go.Proofs.Ytlimabbeaimdgaa
/- The greater one of two integers. -/
namespace Go.Proofs.Ytlimabbeaimdgaa
set_option linter.unusedSimpArgs false
set_option linter.unusedVariables false
open Go.RowKit

end Go.Proofs.Ytlimabbeaimdgaa
/- Requests: which are valid. -/
namespace Go.Proofs.Ytlimabbeaimdgaa
set_option linter.unusedSimpArgs false
set_option linter.unusedVariables false
open Go.RowKit

/-- Not before the one before it. -/
def ordB : Option Int → Int → Bool
  | none, _ => true
  | some a, b => !decide (b < a)
def reqGo (I : Int) : Option Int → List shRequest.T → Bool
  | _, [] => true
  | p, d :: t => inB d.1 0 100000 && (ordB p d.1 && (decide (((d.2.1 : List Nat).length : Int) = I) && reqGo I (some d.1) t))
def prevA (l : List shRequest.T) : Nat → Option Int
  | 0 => none
  | i + 1 => l[i]?.map fun d => d.1
theorem reqGo_at {I : Int} {l : List shRequest.T} {i : Nat} (hi : i < l.length) (p : Option Int) :
    reqGo I p (l.drop i) = (inB l[i].1 0 100000 && (ordB p l[i].1 && (decide (((l[i].2.1 : List Nat).length : Int) = I) && reqGo I (prevA l (i + 1)) (l.drop (i + 1))))) := by
  rw [List.drop_eq_getElem_cons hi]
  simp [reqGo, prevA, hi]
def reqB (L : List shLayer.T) (l : List shRequest.T) : Bool := modB L && (decide (l.length ≤ 20) && reqGo (inL L 0) none l)
/-- What arrives when. -/
def atR (l : List shRequest.T) (i : Nat) : Int := (l[i]?.map fun d => d.1).getD 0
def rowR (l : List shRequest.T) (i : Nat) : List Nat := (l[i]?.map fun d => d.2.1).getD []
theorem atR_eq {l : List shRequest.T} {i : Nat} (h : i < l.length) : atR l i = l[i].1 := by simp [atR, h]
theorem rowR_eq {l : List shRequest.T} {i : Nat} (h : i < l.length) : rowR l i = l[i].2.1 := by simp [rowR, h]
theorem reqGo_all {I : Int} {l : List shRequest.T} : ∀ {i : Nat} {p : Option Int}, reqGo I p l = true → ∀ (h : i < l.length), 0 ≤ l[i].1 ∧ l[i].1 ≤ 100000 ∧ ((l[i].2.1 : List Nat).length : Int) = I ∧ (∀ a, p = some a → a ≤ l[i].1 ∨ 0 < i) ∧ ∀ (h' : i + 1 < l.length), l[i].1 ≤ l[i + 1].1 := by
  induction l with
  | nil => intro i p _ h; simp at h
  | cons d t ih =>
    intro i p hm h
    simp only [reqGo, Bool.and_eq_true] at hm
    obtain ⟨h1, h2, h3, h4⟩ := hm
    have h1' := inB_true.1 h1
    cases i with
    | zero =>
      refine ⟨h1'.1, h1'.2, by simpa using h3, fun a ha => ?_, fun h' => ?_⟩
      · subst ha
        left
        simp only [ordB, Bool.not_eq_true', decide_eq_false_iff_not] at h2
        simpa using h2
      · cases t with
        | nil => simp at h'
        | cons d2 t2 =>
          simp only [reqGo, Bool.and_eq_true, ordB, Bool.not_eq_true', decide_eq_false_iff_not] at h4
          exact Int.not_lt.1 h4.2.1
    | succ i =>
      obtain ⟨g1, g2, g3, _, g5⟩ := ih (i := i) h4 (by simpa using h)
      exact ⟨g1, g2, g3, fun _ _ => .inr (by omega), fun h' => g5 (by simpa using h')⟩
structure ReqOk (I : Int) (l : List shRequest.T) : Prop where
  lo : ∀ i, i < l.length → 0 ≤ atR l i ∧ atR l i ≤ 100000
  len : ∀ i, i < l.length → ((rowR l i).length : Int) = I
  mono : ∀ i, i + 1 < l.length → atR l i ≤ atR l (i + 1)
theorem reqOk {I : Int} {l : List shRequest.T} (h : reqGo I none l = true) : ReqOk I l := by
  refine ⟨fun i hi => ?_, fun i hi => ?_, fun i hi => ?_⟩
  · rw [atR_eq hi]; obtain ⟨h1, h2, _⟩ := reqGo_all h hi; exact ⟨h1, h2⟩
  · rw [rowR_eq hi]; exact (reqGo_all h hi).2.2.1
  · rw [atR_eq hi, atR_eq (show i < l.length by omega)]; exact (reqGo_all h (show i < l.length by omega)).2.2.2.2 hi
theorem ReqOk.le {I : Int} {l : List shRequest.T} (h : ReqOk I l) {i : Nat} : ∀ k, i + k < l.length → atR l i ≤ atR l (i + k)
  | 0, _ => Int.le_refl _
  | k + 1, hk => Int.le_trans (h.le k (by omega)) (h.mono (i + k) hk)
/-- Requests behind a slice. -/
structure Reqs (w : World) (p : Option Addr) (n : Nat) (css : List (List Value)) (l : List shRequest.T) : Prop where
  cs : Cs w p css.flatten
  all : All2 (Rep w shRequest) css l
  size : ∀ c ∈ css, c.length = shRequest.sz
  len : l.length = n
  cnt : css.length = n
  le : n ≤ maxLen
theorem Reqs.ext {w w' : World} {p : Option Addr} {n : Nat} {css : List (List Value)} {l : List shRequest.T} (h : Reqs w p n css l) (e : Ext w w') : Reqs w' p n css l :=
  ⟨h.cs.ext e, h.all.imp fun _ _ => Rep.ext e, h.size, h.len, h.cnt, h.le⟩
theorem reqs_of {w : World} {cs : List Value} {l : List shRequest.T} (h : Rep w shRequestS cs l) : ∃ p c css, cs = [.slice p l.length c] ∧ l.length ≤ c ∧ Reqs w p l.length css l := by
  obtain ⟨p, c, css, rfl, a2, a3, a4, a5, a6, a7⟩ := rep_sl h
  exact ⟨p, c, css, rfl, a3, a2, a5, a6, rfl, a7, Nat.le_trans a3 a4⟩
theorem req_cells {w : World} {cs : List Value} {d : shRequest.T} (h : Rep w shRequest cs d) : ∃ p c, cs = [.int .i64 d.1, .slice p (d.2.1 : List Nat).length c] ∧ Rep w (.sl .flt) [.slice p (d.2.1 : List Nat).length c] d.2.1 ∧ (d.2.1 : List Nat).length ≤ maxLen := by
  obtain ⟨a1, a2, au⟩ := d
  obtain ⟨_, _, rfl, rfl, _, _, rfl, h2, rfl⟩ := h
  obtain ⟨p, c, rfl, h3⟩ := rep_val h2
  exact ⟨p, c, rfl, h2, h3⟩
theorem cs_cellq {w : World} {g : Nat} {cs : List Value} (h : Cs w (some ⟨g, 0, none⟩) cs) (j : Nat) {v : Value} (hv : cs[j]? = some v) : w.cell? ⟨g, j, none⟩ = some v := by have := h.cell j v hv; rwa [adr_row] at this
set_option maxRecDepth 100000 in
set_option maxHeartbeats 4000000 in
theorem areRequests_any (p q : Option Addr) (n c nq cq : Nat) (css csq : List (List Value)) (L : List shLayer.T) (l : List shRequest.T) (w : World) (HLay : Lays w p n css L) (HReq : Reqs w q nq csq l) :
    Calls Try.prog 102 #[.agg #[.slice p n c], .slice q nq cq] w (RetB w (reqB L l)) := by
  have hnq := HReq.le
  unfold maxLen at hnq
  have V := hid (fun W (h : Ext w W) => ValidModel_any p n c L css W HLay.len HLay.le (HLay.cs.ext h) (HLay.all.imp fun _ _ => Rep.ext h) HLay.size HLay.cnt)
  have A0 := hid (fun W (h : Ext w W) h1 => in_any p n c css L W (HLay.ext h) h1)
  have HL := hid HReq.len
  have hpos : modB L = true → 1 ≤ n := fun h => by have := (modOk h).pos; rwa [HLay.len] at this
  obtain ⟨W0, hW0⟩ : ∃ W0, W0 = w.alloc (.cells #[.slice p n c] 33) := ⟨_, rfl⟩
  have E0 : Ext w W0 := by subst hW0; exact Ext.alloc _ _
  have a0 : W0.cell? ⟨w.heap.size, 0, none⟩ = some (.slice p n c) := by subst hW0; simp
  have l1 := HReq.cs; have l2 := HReq.all; have l3 := HReq.size; have l5 := hid HReq.cnt
  unfold reqB
  rw [HL.out]
  clear HReq HLay
  cases hM : modB L
  · rw [Bool.false_and]
    rw [hM] at V
    go_enter Try.func102, Try.ntmps102
    go_wp2_with fail
    rw [← hW0]
    refine (V.out _ E0).mono ?_
    rintro e w1 ⟨rfl, e1⟩
    go_wp2
    go_ret
    exact ⟨rfl, E0.trans e1⟩
  · rw [Bool.true_and]
    rw [hM] at V
    have A := hid (fun W (h : Ext W0 W) => A0.out W (E0.trans h) (hpos hM))
    clear A0 hpos hM
    by_cases h20 : nq ≤ 20
    · rw [decide_eq_true h20, Bool.true_and]
      have hgt : decide ((nq : Int) > 20) = false := by simp; omega
      have hgt2 : decide (20 < (nq : Int)) = false := by simp; omega
      generalize hG0 : reqGo (inL L 0) none l = G
      generalize inL L 0 = I at *
      have HG := hid hG0
      clear hG0
      go_enter Try.func102, Try.ntmps102
      go_wp2_with fail
      rw [← hW0]
      clear hW0
      refine (V.out _ E0).mono ?_
      rintro e w1 ⟨rfl, e1⟩
      clear V
      go_wp2
      go_loopw [17] (fun iv wr => ∃ (i : Nat), i ≤ nq ∧ iv = .int .i64 i ∧ Hid (reqGo I (prevA l i) (l.drop i) = G) ∧ Ext W0 wr) (fun iv _ => nq - (intOf iv).toNat)
      case atStart => exact ⟨0, by omega, rfl, by simpa [Hid, prevA] using HG.out, e1⟩
      case round =>
        clear HG e1
        obtain ⟨i, hi, rfl, HI, he⟩ := hrel
        by_cases hlt : i < nq
        · have hil : i < l.length := by rw [HL.out]; exact hlt
          obtain ⟨ci, hci, ri⟩ := l2.get i l[i] (by simp)
          have hs1 := l1.some_of l3 (by decide) (show 0 < csq.length by rw [l5.out]; omega)
          have hp := l1.ext (E0.trans he)
          have one := ri.one
          obtain ⟨pr, cr, rfl, rr, hm⟩ := req_cells ri
          have hst := HI.out
          rw [reqGo_at hil] at hst
          clear HI ri rr
          unfold maxLen at hm
          generalize hd : l[i] = d at *
          obtain ⟨tA, xr, du⟩ := d
          dsimp only at hci hst one hm
          generalize xr.length = m at *
          cases hin : inB tA 0 100000
          · have HIN := hid hin
            rw [hin, Bool.false_and] at hst
            have hG := hid hst
            clear hst hd
            go_wp2_with (first | ((with_reducible show wpList _ _ _ (Oper.mk _ (Op.indexAddr _ _ _) _ _ _ _ :: Oper.mk _ (Op.load _ _) _ _ _ _ :: _) _ _); refine wl_idxloadE (s := shRequest) (j := i) rfl rfl rfl rfl (fun _ => rfl) rfl rfl (by first | rfl | omega) hp l3 l5.out hlt hs1 hci ?_; simp only [ofCs, Sh.agg, if_true]) | ((with_reducible show wpList _ _ _ (Oper.mk _ (Op.store _ _ _) _ _ _ _ :: _) _ _); refine wl_stA (s := shRequest) (cs := [.int .i64 tA, .slice pr m cr]) rfl rfl rfl rfl (heap_alloc_new _ _) rfl rfl one (by decide) ?_; intro w5 c5 ch5; have E5 : Ext wr w5 := (Ext.alloc _ _).chg ch5 (fun b hb => by subst hb; exact Nat.le_refl _); clear ch5))
            have hD := Ext.drew w5
            have b0 := hD.cell (cs_cellq c5 0 rfl)
            have b1 := hD.cell (cs_cellq c5 1 rfl)
            have m0 := (he.trans (E5.trans hD)).cell a0
            have hpD := hp.ext (E5.trans hD)
            have hWD := he.trans (E5.trans hD)
            clear c5
            obtain ⟨F, hF⟩ : ∃ F : Option Tmp → World → Value → Prop, F = fun d _ u => match d with | some 24 => u = .bool false | _ => u = .int .i64 I := ⟨_, rfl⟩
            have HF := hid hF
            clear hF
            refine wp_region_xall (F := F) (by kernel_rfl) (by kernel_rfl) (by kernel_rfl) ?_
            intro wf hwf
            repeat (first
              | (refine x_skip rfl ?_; simp only [Act.put, ev_tmp, List.setIfInBounds_toArray, List.set_cons_succ, List.set_cons_zero, List.getD_cons_succ, List.getD_cons_zero])
              | (refine x_mv rfl rfl rfl ?_; simp only [Act.put, ev_tmp, List.setIfInBounds_toArray, List.set_cons_succ, List.set_cons_zero, List.getD_cons_succ, List.getD_cons_zero])
              | (refine x_as rfl rfl rfl ?_; simp only [Act.put, ev_tmp, List.setIfInBounds_toArray, List.set_cons_succ, List.set_cons_zero, List.getD_cons_succ, List.getD_cons_zero])
              | ((with_reducible show wpX _ _ _ _ _ _ (Oper.mk _ (Op.call _) _ _ _ _ :: _) _); refine x_callf (f := 81) (args := #[.int .i64 tA, .int .i64 0, .int .i64 100000]) rfl rfl Try.func81 rfl (by kernel_rfl) ?_ ?_ ?_; (focus (simp [Act.eval]; done)); (focus (intro w1 hw1; exact (by rw [HF.out]; exact calls_same (by have h := within_any tA 0 100000 w1; rw [HIN.out] at h; exact h)))); rintro u w3 e3 e4 hu; simp only [HF.out] at hu; subst hu; simp only [Act.put, ev_tmp, List.setIfInBounds_toArray, List.set_cons_succ, List.set_cons_zero, List.getD_cons_succ, List.getD_cons_zero])
              | (refine x_run rfl fun K hK w1 hw1 => ?_; have k0 := hw1.cell (b0); have k1 := hw1.cell (b1); have k2 := hw1.cell (m0); go_simp; refine hK _ ?_; clear hK K k0 k1 k2 hw1 w1))
            refine x_nil ?_
            go_wp2
            go_ret
            exact ⟨by rw [← hG.out]; rfl, (E0.trans hWD).trans hwf⟩
          · have HIN := hid hin
            rw [hin, Bool.true_and] at hst
            rcases Nat.eq_zero_or_pos i with h0 | h0
            · subst h0
              have ho : ordB (prevA l 0) tA = true := rfl
              rw [ho, Bool.true_and] at hst
              by_cases hm2 : (m : Int) = I
              · have Hst := hid (show reqGo I (prevA l 1) (l.drop 1) = G by rw [← hst]; simp [hm2])
                have hE := bne_f hm2
                clear hst hd ho hm2
                go_wp2_with (first | ((with_reducible show wpList _ _ _ (Oper.mk _ (Op.indexAddr _ _ _) _ _ _ _ :: Oper.mk _ (Op.load _ _) _ _ _ _ :: _) _ _); refine wl_idxloadE (s := shRequest) (j := 0) rfl rfl rfl rfl (fun _ => rfl) rfl rfl (by first | rfl | omega) hp l3 l5.out hlt hs1 hci ?_; simp only [ofCs, Sh.agg, if_true]) | ((with_reducible show wpList _ _ _ (Oper.mk _ (Op.store _ _ _) _ _ _ _ :: _) _ _); refine wl_stA (s := shRequest) (cs := [.int .i64 tA, .slice pr m cr]) rfl rfl rfl rfl (heap_alloc_new _ _) rfl rfl one (by decide) ?_; intro w5 c5 ch5; have E5 : Ext wr w5 := (Ext.alloc _ _).chg ch5 (fun b hb => by subst hb; exact Nat.le_refl _); clear ch5))
                have hD := Ext.drew w5
                have b0 := hD.cell (cs_cellq c5 0 rfl)
                have b1 := hD.cell (cs_cellq c5 1 rfl)
                have m0 := (he.trans (E5.trans hD)).cell a0
                have hpD := hp.ext (E5.trans hD)
                have hWD := he.trans (E5.trans hD)
                clear c5
                obtain ⟨F, hF⟩ : ∃ F : Option Tmp → World → Value → Prop, F = fun d _ u => match d with | some 24 => u = .bool true | _ => u = .int .i64 I := ⟨_, rfl⟩
                have HF := hid hF
                clear hF
                refine wp_region_xall (F := F) (by kernel_rfl) (by kernel_rfl) (by kernel_rfl) ?_
                intro wf hwf
                repeat (first
                  | (refine x_skip rfl ?_; simp only [Act.put, ev_tmp, List.setIfInBounds_toArray, List.set_cons_succ, List.set_cons_zero, List.getD_cons_succ, List.getD_cons_zero])
                  | (refine x_mv rfl rfl rfl ?_; simp only [Act.put, ev_tmp, List.setIfInBounds_toArray, List.set_cons_succ, List.set_cons_zero, List.getD_cons_succ, List.getD_cons_zero])
                  | (refine x_as rfl rfl rfl ?_; simp only [Act.put, ev_tmp, List.setIfInBounds_toArray, List.set_cons_succ, List.set_cons_zero, List.getD_cons_succ, List.getD_cons_zero])
                  | ((with_reducible show wpX _ _ _ _ _ _ (Oper.mk _ (Op.call _) _ _ _ _ :: _) _); refine x_callf (f := 81) (args := #[.int .i64 tA, .int .i64 0, .int .i64 100000]) rfl rfl Try.func81 rfl (by kernel_rfl) ?_ ?_ ?_; (focus (simp [Act.eval]; done)); (focus (intro w1 hw1; exact (by rw [HF.out]; exact calls_same (by have h := within_any tA 0 100000 w1; rw [HIN.out] at h; exact h)))); rintro u w3 e3 e4 hu; simp only [HF.out] at hu; subst hu; simp only [Act.put, ev_tmp, List.setIfInBounds_toArray, List.set_cons_succ, List.set_cons_zero, List.getD_cons_succ, List.getD_cons_zero])
                  | ((with_reducible show wpX _ _ _ _ _ _ (Oper.mk _ (Op.call _) _ _ _ _ :: _) _); refine x_callf (f := 100) (args := #[.agg #[.slice p n c]]) rfl rfl Try.func100 rfl (by kernel_rfl) ?_ ?_ ?_; (focus (simp [Act.eval]; done)); (focus (intro w1 hw1; exact (by rw [HF.out]; exact (A.out w1 (hWD.trans hw1)).mono fun e w3 h => ⟨_, h.1, h.2, rfl⟩))); rintro u w3 e3 e4 hu; simp only [HF.out] at hu; subst hu; simp only [Act.put, ev_tmp, List.setIfInBounds_toArray, List.set_cons_succ, List.set_cons_zero, List.getD_cons_succ, List.getD_cons_zero])
                  | (refine x_run rfl fun K hK w1 hw1 => ?_; have k0 := hw1.cell (b0); have k1 := hw1.cell (b1); have k2 := hw1.cell (m0); go_simp; refine hK _ ?_; clear hK K k0 k1 k2 hw1 w1))
                refine x_nil ?_
                go_wp2
                go_roundw
                case rel => exact ⟨1, by omega, by go_num, Hst.out, hWD.trans hwf⟩
                case measure => simp [intOf]; omega
              · have hG := hid (show false = G by rw [← hst]; simp [hm2])
                have hE := bne_t hm2
                clear hst hd ho hm2
                go_wp2_with (first | ((with_reducible show wpList _ _ _ (Oper.mk _ (Op.indexAddr _ _ _) _ _ _ _ :: Oper.mk _ (Op.load _ _) _ _ _ _ :: _) _ _); refine wl_idxloadE (s := shRequest) (j := 0) rfl rfl rfl rfl (fun _ => rfl) rfl rfl (by first | rfl | omega) hp l3 l5.out hlt hs1 hci ?_; simp only [ofCs, Sh.agg, if_true]) | ((with_reducible show wpList _ _ _ (Oper.mk _ (Op.store _ _ _) _ _ _ _ :: _) _ _); refine wl_stA (s := shRequest) (cs := [.int .i64 tA, .slice pr m cr]) rfl rfl rfl rfl (heap_alloc_new _ _) rfl rfl one (by decide) ?_; intro w5 c5 ch5; have E5 : Ext wr w5 := (Ext.alloc _ _).chg ch5 (fun b hb => by subst hb; exact Nat.le_refl _); clear ch5))
                have hD := Ext.drew w5
                have b0 := hD.cell (cs_cellq c5 0 rfl)
                have b1 := hD.cell (cs_cellq c5 1 rfl)
                have m0 := (he.trans (E5.trans hD)).cell a0
                have hpD := hp.ext (E5.trans hD)
                have hWD := he.trans (E5.trans hD)
                clear c5
                obtain ⟨F, hF⟩ : ∃ F : Option Tmp → World → Value → Prop, F = fun d _ u => match d with | some 24 => u = .bool true | _ => u = .int .i64 I := ⟨_, rfl⟩
                have HF := hid hF
                clear hF
                refine wp_region_xall (F := F) (by kernel_rfl) (by kernel_rfl) (by kernel_rfl) ?_
                intro wf hwf
                repeat (first
                  | (refine x_skip rfl ?_; simp only [Act.put, ev_tmp, List.setIfInBounds_toArray, List.set_cons_succ, List.set_cons_zero, List.getD_cons_succ, List.getD_cons_zero])
                  | (refine x_mv rfl rfl rfl ?_; simp only [Act.put, ev_tmp, List.setIfInBounds_toArray, List.set_cons_succ, List.set_cons_zero, List.getD_cons_succ, List.getD_cons_zero])
                  | (refine x_as rfl rfl rfl ?_; simp only [Act.put, ev_tmp, List.setIfInBounds_toArray, List.set_cons_succ, List.set_cons_zero, List.getD_cons_succ, List.getD_cons_zero])
                  | ((with_reducible show wpX _ _ _ _ _ _ (Oper.mk _ (Op.call _) _ _ _ _ :: _) _); refine x_callf (f := 81) (args := #[.int .i64 tA, .int .i64 0, .int .i64 100000]) rfl rfl Try.func81 rfl (by kernel_rfl) ?_ ?_ ?_; (focus (simp [Act.eval]; done)); (focus (intro w1 hw1; exact (by rw [HF.out]; exact calls_same (by have h := within_any tA 0 100000 w1; rw [HIN.out] at h; exact h)))); rintro u w3 e3 e4 hu; simp only [HF.out] at hu; subst hu; simp only [Act.put, ev_tmp, List.setIfInBounds_toArray, List.set_cons_succ, List.set_cons_zero, List.getD_cons_succ, List.getD_cons_zero])
                  | ((with_reducible show wpX _ _ _ _ _ _ (Oper.mk _ (Op.call _) _ _ _ _ :: _) _); refine x_callf (f := 100) (args := #[.agg #[.slice p n c]]) rfl rfl Try.func100 rfl (by kernel_rfl) ?_ ?_ ?_; (focus (simp [Act.eval]; done)); (focus (intro w1 hw1; exact (by rw [HF.out]; exact (A.out w1 (hWD.trans hw1)).mono fun e w3 h => ⟨_, h.1, h.2, rfl⟩))); rintro u w3 e3 e4 hu; simp only [HF.out] at hu; subst hu; simp only [Act.put, ev_tmp, List.setIfInBounds_toArray, List.set_cons_succ, List.set_cons_zero, List.getD_cons_succ, List.getD_cons_zero])
                  | (refine x_run rfl fun K hK w1 hw1 => ?_; have k0 := hw1.cell (b0); have k1 := hw1.cell (b1); have k2 := hw1.cell (m0); go_simp; refine hK _ ?_; clear hK K k0 k1 k2 hw1 w1))
                refine x_nil ?_
                go_wp2
                go_ret
                exact ⟨by rw [← hG.out]; rfl, (E0.trans hWD).trans hwf⟩
            · obtain ⟨j, rfl⟩ : ∃ j, i = j + 1 := ⟨i - 1, by omega⟩
              obtain ⟨cj, hcj, rj⟩ := l2.get j l[j] (by simp)
              obtain ⟨pj, cj', rfl, _, _⟩ := req_cells rj
              have ho : ordB (prevA l (j + 1)) tA = !decide (tA < l[j].1) := by simp [prevA, ordB, show j < l.length by omega]
              rw [ho] at hst
              have hA : IntKind.i64.wrap (((j + 1 : Nat) : Int) - 1) = (j : Int) := by rw [show ((j + 1 : Nat) : Int) - 1 = (j : Int) by omega]; exact wrap_in _ (by omega) (by omega)
              have hB : IntKind.i64.wrap ((j : Int) + 1 - 1) = (j : Int) := by rw [show (j : Int) + 1 - 1 = (j : Int) by omega]; exact wrap_in _ (by omega) (by omega)
              have hC : IntKind.i64.wrap (j : Int) = (j : Int) := wrap_in _ (by omega) (by omega)
              clear rj ho
              generalize l[j].1 = tB at *
              by_cases hlt2 : tA < tB
              · have hG := hid (show false = G by rw [← hst]; simp [hlt2])
                have hT := decide_eq_true hlt2
                clear hst hd
                go_wp2_with (first | ((with_reducible show wpList _ _ _ (Oper.mk _ (Op.indexAddr _ _ _) _ _ _ _ :: Oper.mk _ (Op.load _ _) _ _ _ _ :: _) _ _); refine wl_idxloadE (s := shRequest) (j := (j + 1)) rfl rfl rfl rfl (fun _ => rfl) rfl rfl (by first | rfl | omega) hp l3 l5.out hlt hs1 hci ?_; simp only [ofCs, Sh.agg, if_true]) | ((with_reducible show wpList _ _ _ (Oper.mk _ (Op.store _ _ _) _ _ _ _ :: _) _ _); refine wl_stA (s := shRequest) (cs := [.int .i64 tA, .slice pr m cr]) rfl rfl rfl rfl (heap_alloc_new _ _) rfl rfl one (by decide) ?_; intro w5 c5 ch5; have E5 : Ext wr w5 := (Ext.alloc _ _).chg ch5 (fun b hb => by subst hb; exact Nat.le_refl _); clear ch5))
                have hD := Ext.drew w5
                have b0 := hD.cell (cs_cellq c5 0 rfl)
                have b1 := hD.cell (cs_cellq c5 1 rfl)
                have m0 := (he.trans (E5.trans hD)).cell a0
                have hpD := hp.ext (E5.trans hD)
                have hWD := he.trans (E5.trans hD)
                clear c5
                obtain ⟨F, hF⟩ : ∃ F : Option Tmp → World → Value → Prop, F = fun d _ u => match d with | some 24 => u = .bool true | _ => u = .int .i64 I := ⟨_, rfl⟩
                have HF := hid hF
                clear hF
                refine wp_region_xall (F := F) (by kernel_rfl) (by kernel_rfl) (by kernel_rfl) ?_
                intro wf hwf
                repeat (first
                  | (refine x_skip rfl ?_; simp only [Act.put, ev_tmp, List.setIfInBounds_toArray, List.set_cons_succ, List.set_cons_zero, List.getD_cons_succ, List.getD_cons_zero])
                  | (refine x_mv rfl rfl rfl ?_; simp only [Act.put, ev_tmp, List.setIfInBounds_toArray, List.set_cons_succ, List.set_cons_zero, List.getD_cons_succ, List.getD_cons_zero])
                  | (refine x_as rfl rfl rfl ?_; simp only [Act.put, ev_tmp, List.setIfInBounds_toArray, List.set_cons_succ, List.set_cons_zero, List.getD_cons_succ, List.getD_cons_zero])
                  | ((with_reducible show wpX _ _ _ _ _ _ (Oper.mk _ (Op.call _) _ _ _ _ :: _) _); refine x_callf (f := 81) (args := #[.int .i64 tA, .int .i64 0, .int .i64 100000]) rfl rfl Try.func81 rfl (by kernel_rfl) ?_ ?_ ?_; (focus (simp [Act.eval]; done)); (focus (intro w1 hw1; exact (by rw [HF.out]; exact calls_same (by have h := within_any tA 0 100000 w1; rw [HIN.out] at h; exact h)))); rintro u w3 e3 e4 hu; simp only [HF.out] at hu; subst hu; simp only [Act.put, ev_tmp, List.setIfInBounds_toArray, List.set_cons_succ, List.set_cons_zero, List.getD_cons_succ, List.getD_cons_zero])
                  | ((with_reducible show wpX _ _ _ _ _ _ (Oper.mk _ (Op.indexAddr _ _ _) _ _ _ _ :: Oper.mk _ (Op.fieldAddr _ _ _) _ _ _ _ :: Oper.mk _ (Op.load _ _) _ _ _ _ :: _) _); refine x_ldField (f := 0) (off := 0) (j := j) rfl rfl (fun _ => rfl) rfl (fun _ _ => rfl) rfl (fun _ => rfl) (fun _ _ => rfl) fo_implRequest_0 rfl rfl (by first | exact hA | exact hB | exact hC | omega) hpD l3 l5.out (by omega) hs1 hcj rfl ?_; simp only [Act.put, ev_tmp, List.setIfInBounds_toArray, List.set_cons_succ, List.set_cons_zero, List.getD_cons_succ, List.getD_cons_zero])
                  | (refine x_run rfl fun K hK w1 hw1 => ?_; have k0 := hw1.cell (b0); have k1 := hw1.cell (b1); have k2 := hw1.cell (m0); go_simp; refine hK _ ?_; clear hK K k0 k1 k2 hw1 w1))
                refine x_nil ?_
                go_wp2
                go_ret
                exact ⟨by rw [← hG.out]; rfl, (E0.trans hWD).trans hwf⟩
              · have hT := decide_eq_false hlt2
                rw [hT, Bool.not_false, Bool.true_and] at hst
                by_cases hm2 : (m : Int) = I
                · have Hst := hid (show reqGo I (prevA l (j + 1 + 1)) (l.drop (j + 1 + 1)) = G by rw [← hst]; simp [hm2])
                  have hE := bne_f hm2
                  clear hst hd hm2 hlt2
                  go_wp2_with (first | ((with_reducible show wpList _ _ _ (Oper.mk _ (Op.indexAddr _ _ _) _ _ _ _ :: Oper.mk _ (Op.load _ _) _ _ _ _ :: _) _ _); refine wl_idxloadE (s := shRequest) (j := (j + 1)) rfl rfl rfl rfl (fun _ => rfl) rfl rfl (by first | rfl | omega) hp l3 l5.out hlt hs1 hci ?_; simp only [ofCs, Sh.agg, if_true]) | ((with_reducible show wpList _ _ _ (Oper.mk _ (Op.store _ _ _) _ _ _ _ :: _) _ _); refine wl_stA (s := shRequest) (cs := [.int .i64 tA, .slice pr m cr]) rfl rfl rfl rfl (heap_alloc_new _ _) rfl rfl one (by decide) ?_; intro w5 c5 ch5; have E5 : Ext wr w5 := (Ext.alloc _ _).chg ch5 (fun b hb => by subst hb; exact Nat.le_refl _); clear ch5))
                  have hD := Ext.drew w5
                  have b0 := hD.cell (cs_cellq c5 0 rfl)
                  have b1 := hD.cell (cs_cellq c5 1 rfl)
                  have m0 := (he.trans (E5.trans hD)).cell a0
                  have hpD := hp.ext (E5.trans hD)
                  have hWD := he.trans (E5.trans hD)
                  clear c5
                  obtain ⟨F, hF⟩ : ∃ F : Option Tmp → World → Value → Prop, F = fun d _ u => match d with | some 24 => u = .bool true | _ => u = .int .i64 I := ⟨_, rfl⟩
                  have HF := hid hF
                  clear hF
                  refine wp_region_xall (F := F) (by kernel_rfl) (by kernel_rfl) (by kernel_rfl) ?_
                  intro wf hwf
                  repeat (first
                    | (refine x_skip rfl ?_; simp only [Act.put, ev_tmp, List.setIfInBounds_toArray, List.set_cons_succ, List.set_cons_zero, List.getD_cons_succ, List.getD_cons_zero])
                    | (refine x_mv rfl rfl rfl ?_; simp only [Act.put, ev_tmp, List.setIfInBounds_toArray, List.set_cons_succ, List.set_cons_zero, List.getD_cons_succ, List.getD_cons_zero])
                    | (refine x_as rfl rfl rfl ?_; simp only [Act.put, ev_tmp, List.setIfInBounds_toArray, List.set_cons_succ, List.set_cons_zero, List.getD_cons_succ, List.getD_cons_zero])
                    | ((with_reducible show wpX _ _ _ _ _ _ (Oper.mk _ (Op.call _) _ _ _ _ :: _) _); refine x_callf (f := 81) (args := #[.int .i64 tA, .int .i64 0, .int .i64 100000]) rfl rfl Try.func81 rfl (by kernel_rfl) ?_ ?_ ?_; (focus (simp [Act.eval]; done)); (focus (intro w1 hw1; exact (by rw [HF.out]; exact calls_same (by have h := within_any tA 0 100000 w1; rw [HIN.out] at h; exact h)))); rintro u w3 e3 e4 hu; simp only [HF.out] at hu; subst hu; simp only [Act.put, ev_tmp, List.setIfInBounds_toArray, List.set_cons_succ, List.set_cons_zero, List.getD_cons_succ, List.getD_cons_zero])
                    | ((with_reducible show wpX _ _ _ _ _ _ (Oper.mk _ (Op.indexAddr _ _ _) _ _ _ _ :: Oper.mk _ (Op.fieldAddr _ _ _) _ _ _ _ :: Oper.mk _ (Op.load _ _) _ _ _ _ :: _) _); refine x_ldField (f := 0) (off := 0) (j := j) rfl rfl (fun _ => rfl) rfl (fun _ _ => rfl) rfl (fun _ => rfl) (fun _ _ => rfl) fo_implRequest_0 rfl rfl (by first | exact hA | exact hB | exact hC | omega) hpD l3 l5.out (by omega) hs1 hcj rfl ?_; simp only [Act.put, ev_tmp, List.setIfInBounds_toArray, List.set_cons_succ, List.set_cons_zero, List.getD_cons_succ, List.getD_cons_zero])
                    | ((with_reducible show wpX _ _ _ _ _ _ (Oper.mk _ (Op.call _) _ _ _ _ :: _) _); refine x_callf (f := 100) (args := #[.agg #[.slice p n c]]) rfl rfl Try.func100 rfl (by kernel_rfl) ?_ ?_ ?_; (focus (simp [Act.eval]; done)); (focus (intro w1 hw1; exact (by rw [HF.out]; exact (A.out w1 (hWD.trans hw1)).mono fun e w3 h => ⟨_, h.1, h.2, rfl⟩))); rintro u w3 e3 e4 hu; simp only [HF.out] at hu; subst hu; simp only [Act.put, ev_tmp, List.setIfInBounds_toArray, List.set_cons_succ, List.set_cons_zero, List.getD_cons_succ, List.getD_cons_zero])
                    | (refine x_run rfl fun K hK w1 hw1 => ?_; have k0 := hw1.cell (b0); have k1 := hw1.cell (b1); have k2 := hw1.cell (m0); go_simp; refine hK _ ?_; clear hK K k0 k1 k2 hw1 w1))
                  refine x_nil ?_
                  go_wp2
                  go_roundw
                  case rel => exact ⟨j + 1 + 1, by omega, by go_num, Hst.out, hWD.trans hwf⟩
                  case measure => simp [intOf]; omega
                · have hG := hid (show false = G by rw [← hst]; simp [hm2])
                  have hE := bne_t hm2
                  clear hst hd hm2 hlt2
                  go_wp2_with (first | ((with_reducible show wpList _ _ _ (Oper.mk _ (Op.indexAddr _ _ _) _ _ _ _ :: Oper.mk _ (Op.load _ _) _ _ _ _ :: _) _ _); refine wl_idxloadE (s := shRequest) (j := (j + 1)) rfl rfl rfl rfl (fun _ => rfl) rfl rfl (by first | rfl | omega) hp l3 l5.out hlt hs1 hci ?_; simp only [ofCs, Sh.agg, if_true]) | ((with_reducible show wpList _ _ _ (Oper.mk _ (Op.store _ _ _) _ _ _ _ :: _) _ _); refine wl_stA (s := shRequest) (cs := [.int .i64 tA, .slice pr m cr]) rfl rfl rfl rfl (heap_alloc_new _ _) rfl rfl one (by decide) ?_; intro w5 c5 ch5; have E5 : Ext wr w5 := (Ext.alloc _ _).chg ch5 (fun b hb => by subst hb; exact Nat.le_refl _); clear ch5))
                  have hD := Ext.drew w5
                  have b0 := hD.cell (cs_cellq c5 0 rfl)
                  have b1 := hD.cell (cs_cellq c5 1 rfl)
                  have m0 := (he.trans (E5.trans hD)).cell a0
                  have hpD := hp.ext (E5.trans hD)
                  have hWD := he.trans (E5.trans hD)
                  clear c5
                  obtain ⟨F, hF⟩ : ∃ F : Option Tmp → World → Value → Prop, F = fun d _ u => match d with | some 24 => u = .bool true | _ => u = .int .i64 I := ⟨_, rfl⟩
                  have HF := hid hF
                  clear hF
                  refine wp_region_xall (F := F) (by kernel_rfl) (by kernel_rfl) (by kernel_rfl) ?_
                  intro wf hwf
                  repeat (first
                    | (refine x_skip rfl ?_; simp only [Act.put, ev_tmp, List.setIfInBounds_toArray, List.set_cons_succ, List.set_cons_zero, List.getD_cons_succ, List.getD_cons_zero])
                    | (refine x_mv rfl rfl rfl ?_; simp only [Act.put, ev_tmp, List.setIfInBounds_toArray, List.set_cons_succ, List.set_cons_zero, List.getD_cons_succ, List.getD_cons_zero])
                    | (refine x_as rfl rfl rfl ?_; simp only [Act.put, ev_tmp, List.setIfInBounds_toArray, List.set_cons_succ, List.set_cons_zero, List.getD_cons_succ, List.getD_cons_zero])
                    | ((with_reducible show wpX _ _ _ _ _ _ (Oper.mk _ (Op.call _) _ _ _ _ :: _) _); refine x_callf (f := 81) (args := #[.int .i64 tA, .int .i64 0, .int .i64 100000]) rfl rfl Try.func81 rfl (by kernel_rfl) ?_ ?_ ?_; (focus (simp [Act.eval]; done)); (focus (intro w1 hw1; exact (by rw [HF.out]; exact calls_same (by have h := within_any tA 0 100000 w1; rw [HIN.out] at h; exact h)))); rintro u w3 e3 e4 hu; simp only [HF.out] at hu; subst hu; simp only [Act.put, ev_tmp, List.setIfInBounds_toArray, List.set_cons_succ, List.set_cons_zero, List.getD_cons_succ, List.getD_cons_zero])
                    | ((with_reducible show wpX _ _ _ _ _ _ (Oper.mk _ (Op.indexAddr _ _ _) _ _ _ _ :: Oper.mk _ (Op.fieldAddr _ _ _) _ _ _ _ :: Oper.mk _ (Op.load _ _) _ _ _ _ :: _) _); refine x_ldField (f := 0) (off := 0) (j := j) rfl rfl (fun _ => rfl) rfl (fun _ _ => rfl) rfl (fun _ => rfl) (fun _ _ => rfl) fo_implRequest_0 rfl rfl (by first | exact hA | exact hB | exact hC | omega) hpD l3 l5.out (by omega) hs1 hcj rfl ?_; simp only [Act.put, ev_tmp, List.setIfInBounds_toArray, List.set_cons_succ, List.set_cons_zero, List.getD_cons_succ, List.getD_cons_zero])
                    | ((with_reducible show wpX _ _ _ _ _ _ (Oper.mk _ (Op.call _) _ _ _ _ :: _) _); refine x_callf (f := 100) (args := #[.agg #[.slice p n c]]) rfl rfl Try.func100 rfl (by kernel_rfl) ?_ ?_ ?_; (focus (simp [Act.eval]; done)); (focus (intro w1 hw1; exact (by rw [HF.out]; exact (A.out w1 (hWD.trans hw1)).mono fun e w3 h => ⟨_, h.1, h.2, rfl⟩))); rintro u w3 e3 e4 hu; simp only [HF.out] at hu; subst hu; simp only [Act.put, ev_tmp, List.setIfInBounds_toArray, List.set_cons_succ, List.set_cons_zero, List.getD_cons_succ, List.getD_cons_zero])
                    | (refine x_run rfl fun K hK w1 hw1 => ?_; have k0 := hw1.cell (b0); have k1 := hw1.cell (b1); have k2 := hw1.cell (m0); go_simp; refine hK _ ?_; clear hK K k0 k1 k2 hw1 w1))
                  refine x_nil ?_
                  go_wp2
                  go_ret
                  exact ⟨by rw [← hG.out]; rfl, (E0.trans hWD).trans hwf⟩
        · obtain rfl : i = nq := by omega
          have hst := HI.out
          rw [List.drop_of_length_le (by rw [HL.out]; exact Nat.le_refl _)] at hst
          have hst2 : G = true := by rw [← hst]; rfl
          subst hst2
          go_wp2
          go_ret
          exact ⟨rfl, E0.trans he⟩
    · rw [decide_eq_false h20, Bool.false_and]
      have hgt : decide ((nq : Int) > 20) = true := by simp; omega
      have hgt2 : decide (20 < (nq : Int)) = true := by simp; omega
      go_enter Try.func102, Try.ntmps102
      go_wp2_with fail
      rw [← hW0]
      refine (V.out _ E0).mono ?_
      rintro e w1 ⟨rfl, e1⟩
      go_wp2
      go_ret
      exact ⟨rfl, E0.trans e1⟩
end Go.Proofs.Ytlimabbeaimdgaa
/- BatchSizes of the program and of the reference. -/
namespace Go.Proofs.Ytlimabbeaimdgaa.lBatchSizes
set_option linter.unusedSimpArgs false
set_option linter.unusedVariables false
open Go.RowKit

/-- One answer more. -/
def more (o : List Int) (b : Int) : Option (List Int) :=
  if b = o.length then some (o ++ [1]) else if b = (o.length : Int) - 1 ∧ o.length ≠ 0 then some (o.set (o.length - 1) (o.getD (o.length - 1) 0 + 1)) else none
def go : List Int → List shAnswer.T → Option (List Int)
  | o, [] => some o
  | o, d :: l => match more o d.2.1 with
    | some o' => go o' l
    | none => none
def fin : Option (List Int) → List Int × Bool
  | some o => (o, true)
  | none => ([], false)
def res (l : List shAnswer.T) : List Int × Bool := if l.length ≤ 20 then fin (go [] l) else ([], false)
/-- Counts are small. -/
def Few (o : List Int) (i : Nat) : Prop := o.length ≤ i ∧ ∀ x ∈ o, 0 ≤ x ∧ x ≤ i
theorem few_more {o o' : List Int} {b : Int} {i : Nat} (h : Few o i) (hm : more o b = some o') : Few o' (i + 1) := by
  unfold more at hm
  split at hm
  · cases hm
    refine ⟨by simp; exact h.1, fun x hx => ?_⟩
    rcases List.mem_append.1 hx with hx | hx
    · have := h.2 x hx; omega
    · simp at hx; omega
  · split at hm
    · cases hm
      refine ⟨by simp; exact Nat.le_succ_of_le h.1, fun x hx => ?_⟩
      rcases List.mem_or_eq_of_mem_set hx with hx | rfl
      · have := h.2 x hx; omega
      · by_cases hl : o.length - 1 < o.length
        · have he : o.getD (o.length - 1) 0 = o[o.length - 1] := by simp [hl]
          rw [he]
          have := h.2 _ (List.getElem_mem hl); omega
        · omega
    · cases hm
theorem go_len : ∀ (l : List shAnswer.T) (o o' : List Int), go o l = some o' → o'.length ≤ o.length + l.length
  | [], o, o', h => by cases h; simp
  | d :: l, o, o', h => by
    simp only [go] at h
    split at h
    · rename_i o1 hm
      have := go_len l o1 o' h
      have h2 : o1.length ≤ o.length + 1 := by
        unfold more at hm
        split at hm
        · cases hm; simp
        · split at hm
          · cases hm; simp
          · cases hm
      simp; omega
    · cases h
theorem res_bd (l : List shAnswer.T) (hl : tot shAnswerS l ≤ 1048576) : tot (.sl .int) (res l).1 ≤ 1048576 := by
  rw [tot_ints]
  unfold res
  split
  · cases h : go [] l with
    | none => simp [fin]
    | some o =>
      have := go_len l [] o h
      simp only [fin]
      simp at this; omega
  · simp
theorem own_outs {w w' : World} {p : Option Addr} {c : Nat} {o : List Int} {e : Ending} (h : w'.ownsRow w.heap.size 2 1 (.slice p o.length c) o.length (o.map (.int .i64))) (he : e = .returned (.tuple #[.slice p o.length c, .bool true])) (hx : Ext w w') : OutOk w (.sl .int) (o, true) e w' := by
  have h1 := own_ints.2 ⟨p, c, rfl, ownRow_of h, (own_cap h).1, (own_cap h).2, rfl⟩
  refine ⟨[.slice p o.length c], _, he, h1, ?_, ?_, hx⟩
  · cases p <;> simp [blocksOf]
  · intro b hb
    cases p with
    | none => simp [blocksOf] at hb
    | some a => simp [blocksOf] at hb; subst hb; exact own_le h _ rfl

set_option maxRecDepth 100000 in
set_option maxHeartbeats 4000000 in
theorem impl_ok (cs0 : List Value) (D0 : shAnswerS.T) (w : World) (h0 : Rep w shAnswerS cs0 D0) : Calls Try.prog 45 #[ofCs shAnswerS cs0] w (OutOk w (.sl .int) (res D0)) := by
  obtain ⟨p, c, css, rfl, a2, a3, a4, a5, a6, a7⟩ := rep_sl h0
  have hm0 := Nat.le_trans a3 a4
  unfold maxLen at hm0
  simp only [ofCs, Sh.agg, List.headD_cons, Bool.false_eq_true, if_false]
  by_cases hl : D0.length ≤ 20
  · have hR : res D0 = fin (go [] D0) := by unfold res; simp [hl]
    rw [hR]
    clear hR h0
    generalize hG : go [] D0 = G
    have HG := hid hG
    clear hG
    generalize hL : D0.length = n at *
    have HL := hid hL
    clear hL
    have hstart : (w.alloc (.cells #[] 2)).ownsRow w.heap.size 2 1 (.slice (some ⟨w.heap.size, 0, none⟩) 0 0) 0 [] := World.ownsRow_made w #[] 0 (Nat.le_refl _) (by decide) rfl
    have e0 := Ext.alloc w (.cells #[] 2)
    go_enter Try.func45, Try.ntmps45
    go_wp2
    go_loopw [4, 14] (fun ov iv wr => ∃ (i : Nat) (o : List Int) (q : Option Addr) (cq : Nat), i ≤ n ∧ iv = .int .i64 i ∧ ov = .slice q o.length cq ∧ wr.ownsRow w.heap.size 2 1 (.slice q o.length cq) o.length (o.map (.int .i64)) ∧ Hid (go o (D0.drop i) = G) ∧ Hid (Few o i) ∧ Ext w wr) (fun _ iv _ => n - (intOf iv).toNat)
    case atStart => exact ⟨0, [], _, _, by omega, rfl, rfl, hstart, by simpa [Hid] using HG.out, ⟨by simp, by simp⟩, e0⟩
    case round =>
      clear hstart e0
      obtain ⟨i, o, q, cq, hi, rfl, rfl, own0, HI, HF, he⟩ := hrel
      have hB := he.size
      by_cases hlt : i < n
      · have hil : i < D0.length := by rw [HL.out]; exact hlt
        obtain ⟨ci, hci, ri⟩ := a5.get i D0[i] (by simp)
        have hd0 : D0.drop i = D0[i] :: D0.drop (i + 1) := List.drop_eq_getElem_cons hil
        have hst := HI.out
        rw [hd0] at hst
        clear hd0
        generalize D0[i] = Q at *
        obtain ⟨t, bt, row, u⟩ := Q
        obtain ⟨_, _, rfl, rfl, _, _, rfl, rfl, _, _, rfl, hrow, rfl⟩ := ri
        obtain ⟨pr, cr, rfl, hlr⟩ := rep_val hrow
        simp only [List.cons_append, List.nil_append] at hci
        simp only [go] at hst
        have hs1 := a2.some_of a6 (by decide) (show 0 < css.length by omega)
        have hp := a2.ext he
        have hol : o.length ≤ i := HF.out.1
        clear a5 hrow HI
        by_cases hc1 : bt = (o.length : Int)
        · have hm : more o bt = some (o ++ [1]) := by unfold more; rw [if_pos hc1]
          rw [hm] at hst
          have Hst := hid hst
          have HF2 := hid (few_more HF.out hm)
          clear hst hm HF
          subst hc1
          have hbe := beq_t (rfl : (o.length : Int) = (o.length : Int))
          have hget : (o ++ [(0 : Int)]).getD (o.length : Int).toNat 0 = 0 := by simp
          go_wp2_with (first
            | ((with_reducible show wpList _ _ _ (Oper.mk _ (Op.indexAddr _ _ _) _ _ _ _ :: Oper.mk _ (Op.load _ _) _ _ _ _ :: _) _ _); refine wl_idxloadE (s := shAnswer) (j := i) rfl rfl rfl rfl (fun _ => rfl) rfl rfl rfl hp a6 a7 hlt hs1 hci ?_; simp only [ofCs, Sh.agg, if_true])
            | ((with_reducible show wpList _ _ _ (Oper.mk _ (Op.buildSlice _ _ _) _ _ _ _ :: Oper.mk _ (Op.call _) _ _ _ _ :: _) _ _); refine wl_app1b (u := .int .i64 0) rfl rfl rfl rfl rfl rfl rfl (fun _ => rfl) (fun _ => rfl) (own_ext own0 (Ext.alloc _ _)) (by unfold maxLen; omega) (by omega) (by simp; omega) ?_; intro g c1 w1 own1 g1 hg1; have own2 : w1.ownsRow w.heap.size 2 1 (.slice (some ⟨g, 0, none⟩) (o.length + 1) c1) (o.length + 1) ((o ++ [0]).map (Value.int .i64)) := (by rw [List.map_append]; exact own1); have e1 := (he.trans (Ext.alloc _ _)).grown g1 (fun k hk => own_le own0 k hk); have x1 := (Chg.of_grown g1).cellOf (b := wr.heap.size) (by simp) (fun h => by have := own_lt own0 _ h.symm; omega))
            | ((with_reducible show wpList _ _ _ (Oper.mk _ (Op.indexAddr _ _ _) _ _ _ _ :: Oper.mk _ (Op.load _ _) _ _ _ _ :: _) _ _); refine wl_ldI rfl rfl rfl rfl (fun _ => rfl) rfl rfl (own_Cs own2) (by simp) (by omega) (by omega) ?_; rw [hget])
            | ((with_reducible show wpList _ _ _ (Oper.mk _ (Op.indexAddr _ _ _) _ _ _ _ :: Oper.mk _ (Op.store _ _ _) _ _ _ _ :: _) _ _); refine wl_stI (u := 1) rfl rfl rfl rfl (fun _ => rfl) rfl rfl (fun _ => rfl) own2 (by omega) (by omega) ?_; intro w2 own3 g2))
          go_roundw
          case rel =>
            have hs : (o ++ [(0 : Int)]).set (o.length : Int).toNat 1 = o ++ [1] := by simp
            rw [hs] at own3
            exact ⟨i + 1, o ++ [1], _, _, by omega, by go_num, by simp; exact ⟨rfl, rfl⟩, by simpa using own3, Hst.out, HF2.out, e1.grown g2 (fun k hk => own_le own2 k hk)⟩
          case measure => simp [intOf]; omega
        · by_cases hc2 : bt = (o.length : Int) - 1 ∧ o.length ≠ 0
          · have hm : more o bt = some (o.set (o.length - 1) (o.getD (o.length - 1) 0 + 1)) := by unfold more; rw [if_neg hc1, if_pos hc2]
            rw [hm] at hst
            have Hst := hid hst
            have HF2 := hid (few_more HF.out hm)
            have hx : 0 ≤ o.getD (o.length - 1) 0 ∧ o.getD (o.length - 1) 0 ≤ i := by
              have hlt2 : o.length - 1 < o.length := by omega
              have he2 : o.getD (o.length - 1) 0 = o[o.length - 1] := by simp [hlt2]
              rw [he2]
              exact HF.out.2 _ (List.getElem_mem hlt2)
            obtain ⟨rfl, hz⟩ := hc2
            clear hst hm HF
            have hto : ((o.length : Int) - 1).toNat = o.length - 1 := by omega
            have hbe := beq_f hc1
            have hbn := bne_f (rfl : (o.length : Int) - 1 = (o.length : Int) - 1)
            have hb0 := beq_f (show ¬ (o.length : Int) = 0 by omega)
            generalize hX : o.getD (o.length - 1) 0 = X at *
            have HX := hid hX
            clear hX
            go_wp2_with (first
              | ((with_reducible show wpList _ _ _ (Oper.mk _ (Op.indexAddr _ _ _) _ _ _ _ :: Oper.mk _ (Op.load _ _) _ _ _ _ :: _) _ _); refine wl_idxloadE (s := shAnswer) (j := i) rfl rfl rfl rfl (fun _ => rfl) rfl rfl rfl hp a6 a7 hlt hs1 hci ?_; simp only [ofCs, Sh.agg, if_true])
              | ((with_reducible show wpList _ _ _ (Oper.mk _ (Op.indexAddr _ _ _) _ _ _ _ :: Oper.mk _ (Op.load _ _) _ _ _ _ :: _) _ _); refine wl_ldI rfl rfl rfl rfl (fun _ => rfl) rfl rfl ((own_Cs own0).ext (Ext.alloc _ _)) rfl (by omega) (by omega) ?_; rw [hto, HX.out])
              | ((with_reducible show wpList _ _ _ (Oper.mk _ (Op.indexAddr _ _ _) _ _ _ _ :: Oper.mk _ (Op.store _ _ _) _ _ _ _ :: _) _ _); refine wl_stI (u := X + 1) rfl rfl rfl rfl (fun _ => rfl) rfl rfl (fun _ => rfl) (own_ext own0 (Ext.alloc _ _)) (by omega) (by omega) ?_; intro w2 own3 g2))
            go_roundw
            case rel =>
              rw [hto] at own3
              exact ⟨i + 1, o.set (o.length - 1) (X + 1), q, cq, by omega, by go_num, by rw [List.length_set], by rw [List.length_set]; exact own3, Hst.out, HF2.out, (he.trans (Ext.alloc _ _)).grown g2 (fun k hk => own_le own0 k hk)⟩
            case measure => simp [intOf]; omega
          · have hm : more o bt = none := by unfold more; rw [if_neg hc1, if_neg hc2]
            rw [hm] at hst
            have hst2 : G = none := hst.symm
            subst hst2
            clear hst hm
            have hbe := beq_f hc1
            by_cases hc3 : bt = (o.length : Int) - 1
            · have hz : o.length = 0 := by
                by_cases hz : o.length = 0
                · exact hz
                · exact absurd ⟨hc3, hz⟩ hc2
              have ho : o = [] := List.eq_nil_of_length_eq_zero hz
              subst ho
              subst hc3
              go_wp2_with ((with_reducible show wpList _ _ _ (Oper.mk _ (Op.indexAddr _ _ _) _ _ _ _ :: Oper.mk _ (Op.load _ _) _ _ _ _ :: _) _ _); refine wl_idxloadE (s := shAnswer) (j := i) rfl rfl rfl rfl (fun _ => rfl) rfl rfl rfl hp a6 a7 hlt hs1 hci ?_; simp only [ofCs, Sh.agg, if_true])
              go_ret2
              exact outOk_no rfl (he.trans (Ext.alloc _ _))
            · have hbn := bne_t hc3
              go_wp2_with ((with_reducible show wpList _ _ _ (Oper.mk _ (Op.indexAddr _ _ _) _ _ _ _ :: Oper.mk _ (Op.load _ _) _ _ _ _ :: _) _ _); refine wl_idxloadE (s := shAnswer) (j := i) rfl rfl rfl rfl (fun _ => rfl) rfl rfl rfl hp a6 a7 hlt hs1 hci ?_; simp only [ofCs, Sh.agg, if_true])
              go_ret2
              exact outOk_no rfl (he.trans (Ext.alloc _ _))
      · obtain rfl : i = n := by omega
        have hst := HI.out
        rw [List.drop_of_length_le (by rw [HL.out]; exact Nat.le_refl _)] at hst
        simp only [go] at hst
        subst hst
        go_wp2
        go_ret2
        exact own_outs own0 rfl he
  · have hR : res D0 = ([], false) := by unfold res; simp [hl]
    rw [hR]
    clear hR h0 a5 a7 a2
    generalize D0.length = n at *
    go_enter Try.func45, Try.ntmps45
    go_wp2
    go_ret2
    exact outOk_no rfl (Ext.refl _)
end Go.Proofs.Ytlimabbeaimdgaa.lBatchSizes
/- LongestDelay of the program and of the reference. -/
namespace Go.Proofs.Ytlimabbeaimdgaa.lLongestDelay
set_option linter.unusedSimpArgs false
set_option linter.unusedVariables false
open Go.RowKit

def delGo : List shRequest.T → List shAnswer.T → Int → Option Int
  | q :: qs, a :: bs, m => if inB q.1 0 200000 && inB a.1 q.1 200000 then delGo qs bs (max m (a.1 - q.1)) else none
  | _, _, m => some m
def delFin : Option Int → Int × Bool
  | some m => (m, true)
  | none => (0, false)
def res (qs : List shRequest.T) (bs : List shAnswer.T) : Int × Bool :=
  if decide (qs.length ≤ 20) && decide (bs.length = qs.length) then delFin (delGo qs bs 0) else (0, false)
/-- What comes back. -/
def Got (w : World) (r : Int × Bool) (e : Ending) (w' : World) : Prop := e = .returned (.tuple #[.int .i64 r.1, .bool r.2]) ∧ Ext w w'

set_option maxRecDepth 100000 in
set_option maxHeartbeats 1000000 in
theorem impl_ok (cs0 : List Value) (D0 : shRequestS.T) (cs1 : List Value) (D1 : shAnswerS.T) (w : World) (h0 : Rep w shRequestS cs0 D0) (h1 : Rep w shAnswerS cs1 D1) :
    Calls Try.prog 46 #[ofCs shRequestS cs0, ofCs shAnswerS cs1] w (Got w (res D0 D1)) := by
  obtain ⟨p, c, css, rfl, a2, a3, a4, a5, a6, a7⟩ := rep_sl h0
  obtain ⟨q, d, dss, rfl, b2, b3, b4, b5, b6, b7⟩ := rep_sl h1
  have hm0 := Nat.le_trans a3 a4
  have hm1 := Nat.le_trans b3 b4
  unfold maxLen at hm0 hm1
  simp only [ofCs, Sh.agg, List.headD_cons, Bool.false_eq_true, if_false]
  by_cases hl : D0.length ≤ 20
  · by_cases hn : D1.length = D0.length
    · have hR : res D0 D1 = delFin (delGo D0 D1 0) := by unfold res; simp [hl, hn]
      rw [hR, hn]
      clear hR hm1 h0 h1
      generalize hG : delGo D0 D1 0 = G
      have HG := hid hG
      clear hG
      generalize hL : D0.length = n at *
      have HL := hid hL
      have HN := hid hn
      clear hL hn
      go_enter Try.func46, Try.ntmps46
      go_wp2
      go_loopw [6, 21] (fun mv iv wr => ∃ (i : Nat) (m : Int), i ≤ n ∧ iv = .int .i64 i ∧ mv = .int .i64 m ∧ 0 ≤ m ∧ m ≤ 200000 ∧ Hid (delGo (D0.drop i) (D1.drop i) m = G) ∧ Ext w wr) (fun _ iv _ => n - (intOf iv).toNat)
      case atStart => exact ⟨0, 0, by omega, rfl, rfl, by omega, by omega, by simpa [Hid] using HG.out, Ext.refl w⟩
      case round =>
        obtain ⟨i, m, hi, rfl, rfl, m0, m1, HI, he⟩ := hrel
        by_cases hlt : i < n
        · have hil : i < D0.length := by rw [HL.out]; exact hlt
          have hjl : i < D1.length := by rw [HN.out]; exact hlt
          obtain ⟨ci, hci, ri⟩ := a5.get i D0[i] (by simp)
          obtain ⟨di, hdi, si⟩ := b5.get i D1[i] (by simp)
          have hd0 : D0.drop i = D0[i] :: D0.drop (i + 1) := List.drop_eq_getElem_cons hil
          have hd1 : D1.drop i = D1[i] :: D1.drop (i + 1) := List.drop_eq_getElem_cons hjl
          have hst := HI.out
          rw [hd0, hd1] at hst
          clear hd0 hd1
          generalize D0[i] = Q at *
          generalize D1[i] = R at *
          obtain ⟨t, row, u⟩ := Q
          obtain ⟨t', bt, row', u'⟩ := R
          obtain ⟨_, _, rfl, rfl, _, _, rfl, hrow, rfl⟩ := ri
          obtain ⟨_, _, rfl, rfl, _, _, rfl, rfl, _, _, rfl, hrow', rfl⟩ := si
          obtain ⟨pr, cr, rfl, hlr⟩ := rep_val hrow
          obtain ⟨pr', cr', rfl, hlr'⟩ := rep_val hrow'
          simp only [List.cons_append, List.nil_append] at hci hdi
          simp only [delGo] at hst
          have hst := hid hst
          have hs1 := a2.some_of a6 (by decide) (show 0 < css.length by omega)
          have hs2 := b2.some_of b6 (by decide) (show 0 < dss.length by omega)
          have hp := a2.ext he
          have hq := b2.ext he
          clear a5 b5 hrow hrow' HI
          go_wp2_with (refine wl_idxloadE (s := shRequest) (j := i) rfl rfl rfl rfl (fun _ => rfl) rfl rfl rfl hp a6 a7 hlt hs1 hci ?_; simp only [ofCs, Sh.agg, if_true])
          obtain ⟨F, hF⟩ : ∃ F : Option Tmp → World → Value → Prop, F = fun d _ u => u = .bool (match d with | some 28 => inB t 0 200000 | _ => inB t' t 200000) := ⟨_, rfl⟩
          have HF := hid hF
          clear hF
          cases h1 : inB t 0 200000
          · have H1 := hid h1
            have hst2 : G = none := by have := hst.out; rw [h1] at this; simpa using this.symm
            subst hst2
            clear h1
            refine wp_region_xall (F := F) (by kernel_rfl) (by kernel_rfl) (by kernel_rfl) ?_
            intro wf hwf
            repeat (first
              | (refine x_skip rfl ?_; simp only [Act.put, ev_tmp, List.setIfInBounds_toArray, List.set_cons_succ, List.set_cons_zero, List.getD_cons_succ, List.getD_cons_zero])
              | (refine x_mv rfl rfl rfl ?_; simp only [Act.put, ev_tmp, List.setIfInBounds_toArray, List.set_cons_succ, List.set_cons_zero, List.getD_cons_succ, List.getD_cons_zero])
              | (refine x_as rfl rfl rfl ?_; simp only [Act.put, ev_tmp, List.setIfInBounds_toArray, List.set_cons_succ, List.set_cons_zero, List.getD_cons_succ, List.getD_cons_zero])
              | ((with_reducible show wpX _ _ _ _ _ _ (Oper.mk _ (Op.indexAddr _ _ _) _ _ _ _ :: Oper.mk _ (Op.fieldAddr _ _ _) _ _ _ _ :: Oper.mk _ (Op.load _ _) _ _ _ _ :: _) _); refine x_ldField (j := i) (off := 0) rfl rfl (fun _ => rfl) rfl (fun _ _ => rfl) rfl (fun _ => rfl) (fun _ _ => rfl) fo_implAnswer_0 rfl rfl rfl (hq.ext ((Ext.alloc _ _).trans (Ext.drew _))) b6 (b7.trans HN.out) hlt hs2 hdi rfl ?_; simp only [Act.put, ev_tmp, List.setIfInBounds_toArray, List.set_cons_succ, List.set_cons_zero, List.getD_cons_succ, List.getD_cons_zero])
              | ((with_reducible show wpX _ _ _ _ _ _ (Oper.mk _ (Op.call _) _ _ _ _ :: _) _); refine x_callf (f := 81) (args := #[.int .i64 t, .int .i64 0, .int .i64 200000]) rfl rfl Try.func81 rfl (by kernel_rfl) ?_ ?_ ?_; (focus (simp [Act.eval]; done)); (focus (intro w1 hw1; exact (by rw [HF.out]; exact calls_same (within_any t 0 200000 w1)))); rintro u w3 e3 e4 hu; simp only [HF.out, H1.out] at hu; subst hu; simp only [Act.put, ev_tmp, List.setIfInBounds_toArray, List.set_cons_succ, List.set_cons_zero, List.getD_cons_succ, List.getD_cons_zero])
              | ((with_reducible show wpX _ _ _ _ _ _ (Oper.mk _ (Op.call _) _ _ _ _ :: _) _); refine x_callf (f := 81) (args := #[.int .i64 t', .int .i64 t, .int .i64 200000]) rfl rfl Try.func81 rfl (by kernel_rfl) ?_ ?_ ?_; (focus (simp [Act.eval]; done)); (focus (intro w1 hw1; exact (by rw [HF.out]; exact calls_same (within_any t' t 200000 w1)))); rintro u w3 e3 e4 hu; simp only [HF.out, H1.out] at hu; subst hu; simp only [Act.put, ev_tmp, List.setIfInBounds_toArray, List.set_cons_succ, List.set_cons_zero, List.getD_cons_succ, List.getD_cons_zero])
              | (refine x_run rfl fun K hK w1 hw1 => ?_; have k0 := hw1.cellOf (b := wr.heap.size) (by simp); go_simp; refine hK _ ?_; clear hK K k0 hw1 w1))
            refine x_nil ?_
            go_wp2
            go_ret2
            exact ⟨rfl, (he.trans ((Ext.alloc _ _).trans (Ext.drew _))).trans hwf⟩
          cases h2 : inB t' t 200000
          · have H1 := hid h1
            have H2 := hid h2
            have hst2 : G = none := by have := hst.out; rw [h1, h2] at this; simpa using this.symm
            subst hst2
            clear h1 h2
            refine wp_region_xall (F := F) (by kernel_rfl) (by kernel_rfl) (by kernel_rfl) ?_
            intro wf hwf
            repeat (first
              | (refine x_skip rfl ?_; simp only [Act.put, ev_tmp, List.setIfInBounds_toArray, List.set_cons_succ, List.set_cons_zero, List.getD_cons_succ, List.getD_cons_zero])
              | (refine x_mv rfl rfl rfl ?_; simp only [Act.put, ev_tmp, List.setIfInBounds_toArray, List.set_cons_succ, List.set_cons_zero, List.getD_cons_succ, List.getD_cons_zero])
              | (refine x_as rfl rfl rfl ?_; simp only [Act.put, ev_tmp, List.setIfInBounds_toArray, List.set_cons_succ, List.set_cons_zero, List.getD_cons_succ, List.getD_cons_zero])
              | ((with_reducible show wpX _ _ _ _ _ _ (Oper.mk _ (Op.indexAddr _ _ _) _ _ _ _ :: Oper.mk _ (Op.fieldAddr _ _ _) _ _ _ _ :: Oper.mk _ (Op.load _ _) _ _ _ _ :: _) _); refine x_ldField (j := i) (off := 0) rfl rfl (fun _ => rfl) rfl (fun _ _ => rfl) rfl (fun _ => rfl) (fun _ _ => rfl) fo_implAnswer_0 rfl rfl rfl (hq.ext ((Ext.alloc _ _).trans (Ext.drew _))) b6 (b7.trans HN.out) hlt hs2 hdi rfl ?_; simp only [Act.put, ev_tmp, List.setIfInBounds_toArray, List.set_cons_succ, List.set_cons_zero, List.getD_cons_succ, List.getD_cons_zero])
              | ((with_reducible show wpX _ _ _ _ _ _ (Oper.mk _ (Op.call _) _ _ _ _ :: _) _); refine x_callf (f := 81) (args := #[.int .i64 t, .int .i64 0, .int .i64 200000]) rfl rfl Try.func81 rfl (by kernel_rfl) ?_ ?_ ?_; (focus (simp [Act.eval]; done)); (focus (intro w1 hw1; exact (by rw [HF.out]; exact calls_same (within_any t 0 200000 w1)))); rintro u w3 e3 e4 hu; simp only [HF.out, H1.out] at hu; subst hu; simp only [Act.put, ev_tmp, List.setIfInBounds_toArray, List.set_cons_succ, List.set_cons_zero, List.getD_cons_succ, List.getD_cons_zero])
              | ((with_reducible show wpX _ _ _ _ _ _ (Oper.mk _ (Op.call _) _ _ _ _ :: _) _); refine x_callf (f := 81) (args := #[.int .i64 t', .int .i64 t, .int .i64 200000]) rfl rfl Try.func81 rfl (by kernel_rfl) ?_ ?_ ?_; (focus (simp [Act.eval]; done)); (focus (intro w1 hw1; exact (by rw [HF.out]; exact calls_same (within_any t' t 200000 w1)))); rintro u w3 e3 e4 hu; simp only [HF.out, H2.out] at hu; subst hu; simp only [Act.put, ev_tmp, List.setIfInBounds_toArray, List.set_cons_succ, List.set_cons_zero, List.getD_cons_succ, List.getD_cons_zero])
              | (refine x_run rfl fun K hK w1 hw1 => ?_; have k0 := hw1.cellOf (b := wr.heap.size) (by simp); go_simp; refine hK _ ?_; clear hK K k0 hw1 w1))
            refine x_nil ?_
            go_wp2
            go_ret2
            exact ⟨rfl, (he.trans ((Ext.alloc _ _).trans (Ext.drew _))).trans hwf⟩
          have H1 := hid h1
          have H2 := hid h2
          have hst2 : delGo (D0.drop (i + 1)) (D1.drop (i + 1)) (max m (t' - t)) = G := by have := hst.out; rw [h1, h2] at this; simpa using this
          have Hst := hid hst2
          rw [inB_true] at h1 h2
          clear hst2 hst
          refine wp_region_xall (F := F) (by kernel_rfl) (by kernel_rfl) (by kernel_rfl) ?_
          intro wf hwf
          repeat (first
            | (refine x_skip rfl ?_; simp only [Act.put, ev_tmp, List.setIfInBounds_toArray, List.set_cons_succ, List.set_cons_zero, List.getD_cons_succ, List.getD_cons_zero])
            | (refine x_mv rfl rfl rfl ?_; simp only [Act.put, ev_tmp, List.setIfInBounds_toArray, List.set_cons_succ, List.set_cons_zero, List.getD_cons_succ, List.getD_cons_zero])
            | (refine x_as rfl rfl rfl ?_; simp only [Act.put, ev_tmp, List.setIfInBounds_toArray, List.set_cons_succ, List.set_cons_zero, List.getD_cons_succ, List.getD_cons_zero])
            | ((with_reducible show wpX _ _ _ _ _ _ (Oper.mk _ (Op.indexAddr _ _ _) _ _ _ _ :: Oper.mk _ (Op.fieldAddr _ _ _) _ _ _ _ :: Oper.mk _ (Op.load _ _) _ _ _ _ :: _) _); refine x_ldField (j := i) (off := 0) rfl rfl (fun _ => rfl) rfl (fun _ _ => rfl) rfl (fun _ => rfl) (fun _ _ => rfl) fo_implAnswer_0 rfl rfl rfl (hq.ext ((Ext.alloc _ _).trans (Ext.drew _))) b6 (b7.trans HN.out) hlt hs2 hdi rfl ?_; simp only [Act.put, ev_tmp, List.setIfInBounds_toArray, List.set_cons_succ, List.set_cons_zero, List.getD_cons_succ, List.getD_cons_zero])
            | ((with_reducible show wpX _ _ _ _ _ _ (Oper.mk _ (Op.call _) _ _ _ _ :: _) _); refine x_callf (f := 81) (args := #[.int .i64 t, .int .i64 0, .int .i64 200000]) rfl rfl Try.func81 rfl (by kernel_rfl) ?_ ?_ ?_; (focus (simp [Act.eval]; done)); (focus (intro w1 hw1; exact (by rw [HF.out]; exact calls_same (within_any t 0 200000 w1)))); rintro u w3 e3 e4 hu; simp only [HF.out, H1.out] at hu; subst hu; simp only [Act.put, ev_tmp, List.setIfInBounds_toArray, List.set_cons_succ, List.set_cons_zero, List.getD_cons_succ, List.getD_cons_zero])
            | ((with_reducible show wpX _ _ _ _ _ _ (Oper.mk _ (Op.call _) _ _ _ _ :: _) _); refine x_callf (f := 81) (args := #[.int .i64 t', .int .i64 t, .int .i64 200000]) rfl rfl Try.func81 rfl (by kernel_rfl) ?_ ?_ ?_; (focus (simp [Act.eval]; done)); (focus (intro w1 hw1; exact (by rw [HF.out]; exact calls_same (within_any t' t 200000 w1)))); rintro u w3 e3 e4 hu; simp only [HF.out, H2.out] at hu; subst hu; simp only [Act.put, ev_tmp, List.setIfInBounds_toArray, List.set_cons_succ, List.set_cons_zero, List.getD_cons_succ, List.getD_cons_zero])
            | (refine x_run rfl fun K hK w1 hw1 => ?_; have k0 := hw1.cellOf (b := wr.heap.size) (by simp); go_simp; refine hK _ ?_; clear hK K k0 hw1 w1))
          refine x_nil ?_
          have x1 := hwf.cellOf (b := wr.heap.size) (by simp)
          have y1 := hwf.size
          have hb1 : wr.heap.size < wf.drew.heap.size := by simp at y1 ⊢; omega
          have E1 : Ext wr wf := ((Ext.alloc _ _).trans (Ext.drew _)).trans hwf
          have hwr : IntKind.i64.wrap (t' - t) = t' - t := wrap_in _ (by omega) (by omega)
          go_wp2
          refine wp_region_xall (F := fun _ _ _ => True) (by kernel_rfl) (by kernel_rfl) (by kernel_rfl) ?_
          intro wf hwf
          repeat (first
            | (refine x_skip rfl ?_; simp only [Act.put, ev_tmp, List.setIfInBounds_toArray, List.set_cons_succ, List.set_cons_zero, List.getD_cons_succ, List.getD_cons_zero])
            | (refine x_mv rfl rfl rfl ?_; simp only [Act.put, ev_tmp, List.setIfInBounds_toArray, List.set_cons_succ, List.set_cons_zero, List.getD_cons_succ, List.getD_cons_zero])
            | (refine x_as rfl rfl rfl ?_; simp only [Act.put, ev_tmp, List.setIfInBounds_toArray, List.set_cons_succ, List.set_cons_zero, List.getD_cons_succ, List.getD_cons_zero])
            | ((with_reducible show wpX _ _ _ _ _ _ (Oper.mk _ (Op.indexAddr _ _ _) _ _ _ _ :: Oper.mk _ (Op.fieldAddr _ _ _) _ _ _ _ :: Oper.mk _ (Op.load _ _) _ _ _ _ :: _) _); refine x_ldField (j := i) (off := 0) rfl rfl (fun _ => rfl) rfl (fun _ _ => rfl) rfl (fun _ => rfl) (fun _ _ => rfl) fo_implAnswer_0 rfl rfl rfl (hq.ext (E1.trans (Ext.drew _))) b6 (b7.trans HN.out) hlt hs2 hdi rfl ?_; simp only [Act.put, ev_tmp, List.setIfInBounds_toArray, List.set_cons_succ, List.set_cons_zero, List.getD_cons_succ, List.getD_cons_zero])
            | (refine x_run rfl fun K hK w1 hw1 => ?_; have k0 := hw1.cellOf hb1; go_simp; refine hK _ ?_; clear hK K k0 hw1 w1))
          refine x_nil ?_
          go_wp2
          go_roundw
          case rel => exact ⟨i + 1, max m (t' - t), by omega, by go_num, by congr 1; rw [Int.max_def]; split <;> split <;> omega, by omega, by omega, Hst.out, (he.trans E1).trans ((Ext.drew _).trans hwf)⟩
          case measure => simp [intOf]; omega
        · obtain rfl : i = n := by omega
          have hst := HI.out
          rw [List.drop_of_length_le (by rw [HL.out]; exact Nat.le_refl _)] at hst
          have hst2 : G = some m := by rw [← hst]; simp [delGo]
          subst hst2
          go_wp2
          go_ret2
          exact ⟨rfl, he⟩
    · have hR : res D0 D1 = (0, false) := by unfold res; simp [hl, hn]
      rw [hR]
      clear hR h0 h1 a5 b5 a7 b7 a2 b2
      have F0 : ((D1.length : Int) != (D0.length : Int)) = true := by rw [bne_iff_ne]; omega
      have F1 : ((D0.length : Int) != (D1.length : Int)) = true := by rw [bne_iff_ne]; omega
      generalize D0.length = n at *
      generalize D1.length = m at *
      go_enter Try.func46, Try.ntmps46
      go_wp2
      go_ret2
      exact ⟨rfl, Ext.refl _⟩
  · have hR : res D0 D1 = (0, false) := by unfold res; simp [hl]
    rw [hR]
    clear hR h0 h1 a5 b5 a7 b7 a2 b2
    generalize D0.length = n at *
    generalize D1.length = m at *
    go_enter Try.func46, Try.ntmps46
    go_wp2
    go_ret2
    exact ⟨rfl, Ext.refl _⟩

end Go.Proofs.Ytlimabbeaimdgaa.lLongestDelay
/- Requests, served in batches: what the answers are. -/
namespace Go.Proofs.Ytlimabbeaimdgaa
set_option linter.unusedSimpArgs false
set_option linter.unusedVariables false
open Go.RowKit

/-- When a batch begins, whose first request is the i-th one. -/
def beg (A : Nat → Int) (n z : Nat) (wt free : Int) (i : Nat) : Int := max free (if i + z ≤ n then min (A i + wt) (A (i + z - 1)) else A i + wt)
/-- Of each request: the first one of its batch, the batch, its beginning. -/
def sv (A : Nat → Int) (n z : Nat) (wt wk : Int) : Nat → Nat × Nat × Int
  | 0 => (0, 0, beg A n z wt 0 0)
  | j + 1 => if j + 1 - (sv A n z wt wk j).1 < z ∧ A (j + 1) ≤ (sv A n z wt wk j).2.2 then sv A n z wt wk j else (j + 1, (sv A n z wt wk j).2.1 + 1, beg A n z wt ((sv A n z wt wk j).2.2 + wk) (j + 1))
structure SvOk (A : Nat → Int) (n z : Nat) (wt wk : Int) : Prop where
  lo : ∀ i, i < n → 0 ≤ A i ∧ A i ≤ 100000
  mono : ∀ i k, i + k < n → A i ≤ A (i + k)
  z1 : 1 ≤ z
  z16 : z ≤ 16
  wt0 : 0 ≤ wt ∧ wt ≤ 100000
  wk1 : 1 ≤ wk ∧ wk ≤ 100000
  n20 : n ≤ 20
theorem beg_bd {A : Nat → Int} {n z : Nat} {wt wk : Int} (h : SvOk A n z wt wk) {i : Nat} (hi : i < n) {free F : Int} (h0 : 0 ≤ free) (hF : free ≤ F) (h2 : 200000 ≤ F) : 0 ≤ beg A n z wt free i ∧ beg A n z wt free i ≤ F ∧ A i ≤ beg A n z wt free i := by
  have a1 := h.lo i hi
  have a2 := h.wt0
  have a3 := h.z1
  unfold beg
  split
  · rename_i hz
    have a4 := h.mono i (z - 1) (by omega)
    have a5 := h.lo (i + (z - 1)) (by omega)
    rw [show i + z - 1 = i + (z - 1) by omega]
    omega
  · omega
theorem sv_bd {A : Nat → Int} {n z : Nat} {wt wk : Int} (h : SvOk A n z wt wk) : ∀ j, j < n → 0 ≤ (sv A n z wt wk j).2.2 ∧ (sv A n z wt wk j).2.2 ≤ 200000 + 100000 * j ∧ (sv A n z wt wk j).1 ≤ j ∧ (sv A n z wt wk j).2.1 ≤ j
  | 0, hj => by
    obtain ⟨h1, h2, h3⟩ := beg_bd h hj (free := 0) (F := 200000) (by omega) (by omega) (by omega)
    exact ⟨h1, by simpa [sv] using h2, Nat.le_refl _, Nat.le_refl _⟩
  | j + 1, hj => by
    obtain ⟨h1, h2, h3, h4⟩ := sv_bd h j (by omega)
    have a2 := h.wk1
    unfold sv
    split
    · exact ⟨h1, by push_cast; omega, by omega, by omega⟩
    · obtain ⟨g1, g2, g3⟩ := beg_bd h hj (free := (sv A n z wt wk j).2.2 + wk) (F := 200000 + 100000 * ((j + 1 : Nat) : Int)) (by omega) (by push_cast; omega) (by omega)
      exact ⟨g1, g2, Nat.le_refl _, by show (sv A n z wt wk j).2.1 + 1 ≤ j + 1; omega⟩
theorem sv_stay {A : Nat → Int} {n z : Nat} {wt wk : Int} {j i b : Nat} {s : Int} (h : sv A n z wt wk j = (i, b, s)) (h1 : j + 1 - i < z) (h2 : A (j + 1) ≤ s) : sv A n z wt wk (j + 1) = (i, b, s) := by
  have e : sv A n z wt wk (j + 1) = if j + 1 - (sv A n z wt wk j).1 < z ∧ A (j + 1) ≤ (sv A n z wt wk j).2.2 then sv A n z wt wk j else (j + 1, (sv A n z wt wk j).2.1 + 1, beg A n z wt ((sv A n z wt wk j).2.2 + wk) (j + 1)) := rfl
  rw [e, h, if_pos ⟨h1, h2⟩]
theorem sv_next {A : Nat → Int} {n z : Nat} {wt wk : Int} {j i b : Nat} {s : Int} (h : sv A n z wt wk j = (i, b, s)) (h1 : ¬ (j + 1 - i < z ∧ A (j + 1) ≤ s)) : sv A n z wt wk (j + 1) = (j + 1, b + 1, beg A n z wt (s + wk) (j + 1)) := by
  have e : sv A n z wt wk (j + 1) = if j + 1 - (sv A n z wt wk j).1 < z ∧ A (j + 1) ≤ (sv A n z wt wk j).2.2 then sv A n z wt wk j else (j + 1, (sv A n z wt wk j).2.1 + 1, beg A n z wt ((sv A n z wt wk j).2.2 + wk) (j + 1)) := rfl
  rw [e, h, if_neg h1]
/-- The answers to the first requests. -/
def ansL (f : Nat → List Nat) (s : Nat → Nat × Nat × Int) (wk : Int) (k : Nat) : List shAnswer.T := (List.range k).map fun j => ((s j).2.2 + wk, ((s j).2.1 : Int), f j, ())
theorem ansL_len (f : Nat → List Nat) (s : Nat → Nat × Nat × Int) (wk : Int) (k : Nat) : (ansL f s wk k).length = k := by simp [ansL]
theorem ansL_succ (f : Nat → List Nat) (s : Nat → Nat × Nat × Int) (wk : Int) (k : Nat) : ansL f s wk (k + 1) = ansL f s wk k ++ [((s k).2.2 + wk, ((s k).2.1 : Int), f k, ())] := by simp [ansL, List.range_succ]
theorem tot_ans (f : Nat → List Nat) (s : Nat → Nat × Nat × Int) (wk : Int) : ∀ k, (∀ j, j < k → (f j).length ≤ 8) → tot shAnswerS (ansL f s wk k) ≤ 9 * k
  | 0, _ => by simp [ansL, tot]
  | k + 1, h => by
    have h1 := tot_ans f s wk k (fun j hj => h j (by omega))
    have h2 := h k (by omega)
    have h3 : tot shAnswer ((s k).2.2 + wk, ((s k).2.1 : Int), f k, ()) = (f k).length := by
      show 0 + (0 + (tot (.sl .flt) (f k) + 0)) = _
      rw [tot_flts]; omega
    have h4 : tot shAnswerS (ansL f s wk (k + 1)) = (ansL f s wk k).length + 1 + (((ansL f s wk k).map (tot shAnswer)).sum + tot shAnswer ((s k).2.2 + wk, ((s k).2.1 : Int), f k, ())) := by
      rw [ansL_succ]; simp only [tot, List.length_append, List.map_append, List.sum_append]; simp
    have h5 : tot shAnswerS (ansL f s wk k) = (ansL f s wk k).length + ((ansL f s wk k).map (tot shAnswer)).sum := by simp only [tot]
    rw [h4, h3]
    omega
/-- The last stage, one's own. -/
theorem IsSt.lastOwn {B : Nat} {l : List shLayer.T} {x : List Nat} {n : Nat} {w : World} {u : Value} (h : IsSt B (stF l x n) w u) (hn : 1 ≤ n) : ∃ (p : Option Addr) (k : Nat) (q : Option Addr) (m cq : Nat) (css : List (List Value)) (bs : List Nat), u = .slice p n k ∧ Cs w p css.flatten ∧ (∀ c ∈ css, c.length = 1) ∧ css.length = n ∧ p.isSome = true ∧ css[n - 1]? = some [.slice q m cq] ∧ Own w (.sl .flt) [.slice q m cq] (curF l x n) bs ∧ bs.Nodup ∧ (∀ b ∈ bs, B ≤ b) ∧ (curF l x n).length = m := by
  obtain ⟨css, bss, hg⟩ := h
  have hrow := hg.row
  rw [stF_len] at hrow
  have hall := hg.els.all
  have k1 := hg.els.1
  have k2 := hg.els.2.1
  rw [stF_len] at k1 k2
  have hbi : bss[n - 1]? = some (bss[n - 1]'(by omega)) := by simp
  have hr := hg.els.2.2 (n - 1) (css[n - 1]'(by omega)) (bss[n - 1]'(by omega)) (curF l x n) (by simp) (by simp) (by
    unfold stF; rw [List.getElem?_map, List.getElem?_range (by omega)]; simp [show n - 1 + 1 = n by omega])
  obtain ⟨q, cq, us, hc, hrest⟩ := rep_flts.1 hr.rep
  obtain ⟨p, k, rfl⟩ : ∃ p k, u = .slice p n k := by
    rcases hrow.2 with ⟨h1, h2⟩ | ⟨g, cap, cur, h1, _⟩
    · exact ⟨none, 0, by rw [h1, h2]⟩
    · exact ⟨_, _, h1⟩
  have hp := own_Cs hrow
  refine ⟨p, k, q, _, cq, css, _, rfl, hp, hall, k1, ?_, by rw [← hc]; simp, by rw [← hc]; exact hr, flat_nodup hg.nodup hbi, fun b hb => (hg.lo b (List.mem_flatten.2 ⟨_, List.getElem_mem _, hb⟩)).1, rfl⟩
  exact hp.some_of (s := 1) (i := 0) hall (by decide) (by omega)
/-- An answer of one's own. -/
theorem own_ans {w : World} {a b : Int} {q : Option Addr} {n c : Nat} {xs bs : List Nat} (e : xs.length = n) (h : Own w (.sl .flt) [.slice q n c] xs bs) : Own w shAnswer [.int .i64 a, .int .i64 b, .slice q n c] (a, b, xs, ()) bs := by
  subst e
  exact ⟨[.int .i64 a], [.int .i64 b, .slice q xs.length c], [], bs, rfl, ⟨rfl, rfl⟩, ⟨[.int .i64 b], [.slice q xs.length c], [], bs, rfl, ⟨rfl, rfl⟩, ⟨[.slice q xs.length c], [], bs, [], rfl, h, ⟨rfl, rfl⟩, by simp⟩, rfl⟩, rfl⟩
/-- The rest of a slice. -/
theorem rest_cs {w : World} {p : Option Addr} {css : List (List Value)} {s n i c : Nat} (h : Cs w p css.flatten) (hall : ∀ x ∈ css, x.length = s) (hn : css.length = n) (hi : i ≤ n) (hc : n ≤ c) : Cs w (subp p s i c) (css.drop i).flatten := by
  have h1 := h.sub (s := s) (l := i) (hi := n) (c := c) hi hc
  have h2 : css.flatten.length = n * s := by rw [flat_len' hall, hn]
  rw [← h2, List.take_length] at h1
  have h3 : css.flatten.drop (i * s) = (css.drop i).flatten := by
    have h4 : (css.take i).flatten.length = i * s := by
      rw [flat_len' (fun x hx => hall x (List.mem_of_mem_take hx)), List.length_take, hn, Nat.min_eq_left hi]
    conv => lhs; rw [← List.take_append_drop i css, List.flatten_append]
    rw [← h4, List.drop_left]
  rw [← h3]
  exact h1
end Go.Proofs.Ytlimabbeaimdgaa
/- ServeRequests. -/
namespace Go.Proofs.Ytlimabbeaimdgaa
set_option linter.unusedSimpArgs false
set_option linter.unusedVariables false
open Go.RowKit

section
variable {P : Program} {w : World} {ops : Array Oper} {rest : List Oper} {o : Oper} {a : Act} {Q : Exit → Act → World → Prop}
theorem run_minI {ρ : Operand → Value} {x y : Operand} {ts : Array TypeId} {u v : Int} (ho : o.op = .call { callee := .builtin .min, args := #[x, y], argTypes := ts }) (hx : ρ x = .int .i64 u) (hy : ρ y = .int .i64 v) : (execOp ρ o).run P w = .ok (.value (.int .i64 (min u v))) w := by
  have h : (if v < u then v else u) = min u v := by rw [Int.min_def]; split <;> split <;> omega
  simp [execOp, ho, hx, hy, go_sem, h]
theorem run_maxI {ρ : Operand → Value} {x y : Operand} {ts : Array TypeId} {u v : Int} (ho : o.op = .call { callee := .builtin .max, args := #[x, y], argTypes := ts }) (hx : ρ x = .int .i64 u) (hy : ρ y = .int .i64 v) : (execOp ρ o).run P w = .ok (.value (.int .i64 (max u v))) w := by
  have h : (if u < v then v else u) = max u v := by rw [Int.max_def]; split <;> split <;> omega
  simp [execOp, ho, hx, hy, go_sem, h]
theorem wl_minI {x y : Operand} {ts : Array TypeId} {u v : Int} (hg : o.guard = none) (ho : o.op = .call { callee := .builtin .min, args := #[x, y], argTypes := ts }) (hx : a.eval x = .int .i64 u) (hy : a.eval y = .int .i64 v)
    (h : wpList P ops Q rest (a.put o.dst (.int .i64 (min u v))) w) : wpList P ops Q (o :: rest) a w := wl_value hg (run_minI ho hx hy) h
theorem wl_maxI {x y : Operand} {ts : Array TypeId} {u v : Int} (hg : o.guard = none) (ho : o.op = .call { callee := .builtin .max, args := #[x, y], argTypes := ts }) (hx : a.eval x = .int .i64 u) (hy : a.eval y = .int .i64 v)
    (h : wpList P ops Q rest (a.put o.dst (.int .i64 (max u v))) w) : wpList P ops Q (o :: rest) a w := wl_value hg (run_maxI ho hx hy) h
end
/-- A batch ends. -/
theorem sv_end {A : Nat → Int} {n z : Nat} {wt wk free : Int} (h : SvOk A n z wt wk) {i k b : Nat} (hi : i < n) (h0 : 0 ≤ free) (hs : sv A n z wt wk i = (i, b, beg A n z wt free i)) (hk : i + k ≤ n) (hl : 1 ≤ k → sv A n z wt wk (i + k - 1) = (i, b, beg A n z wt free i))
    (hstop : i + k = n ∨ k = z ∨ (i + k < n ∧ beg A n z wt free i < A (i + k))) : 1 ≤ k ∧ (i + k < n → sv A n z wt wk (i + k) = (i + k, b + 1, beg A n z wt (beg A n z wt free i + wk) (i + k))) := by
  have hb := (beg_bd h hi (free := free) (F := max free 200000) h0 (by omega) (by omega)).2.2
  have hz := h.z1
  have hk1 : 1 ≤ k := by
    rcases Nat.eq_zero_or_pos k with h' | h'
    · subst h'
      rcases hstop with h' | h' | h'
      · omega
      · omega
      · rw [Nat.add_zero] at h'; omega
    · exact h'
  refine ⟨hk1, fun hlt => ?_⟩
  obtain ⟨j, rfl⟩ : ∃ j, k = j + 1 := ⟨k - 1, by omega⟩
  have hj := hl (by omega)
  rw [show i + (j + 1) - 1 = i + j by omega] at hj
  have := sv_next hj (wk := wk) (n := n) (z := z) (wt := wt) (A := A) (by
    rintro ⟨h1, h2⟩
    rw [show i + j + 1 = i + (j + 1) by omega] at h2
    rcases hstop with h' | h' | h'
    · omega
    · omega
    · omega)
  rw [show i + (j + 1) = i + j + 1 by omega]
  exact this
/-- A batch goes on. -/
theorem sv_go {A : Nat → Int} {n z : Nat} {wt wk free : Int} {i k b : Nat} (hs : sv A n z wt wk i = (i, b, beg A n z wt free i)) (hl : 1 ≤ k → sv A n z wt wk (i + k - 1) = (i, b, beg A n z wt free i)) (hk : k < z) (ha : A (i + k) ≤ beg A n z wt free i) : sv A n z wt wk (i + k) = (i, b, beg A n z wt free i) := by
  rcases Nat.eq_zero_or_pos k with h' | h'
  · subst h'; exact hs
  · obtain ⟨j, rfl⟩ : ∃ j, k = j + 1 := ⟨k - 1, by omega⟩
    have hj := hl (by omega)
    rw [show i + (j + 1) - 1 = i + j by omega] at hj
    have := sv_stay hj (wk := wk) (n := n) (z := z) (wt := wt) (A := A) (by omega) (by rw [show i + j + 1 = i + (j + 1) by omega]; exact ha)
    rw [show i + (j + 1) = i + j + 1 by omega]
    exact this
end Go.Proofs.Ytlimabbeaimdgaa
namespace Go.Proofs.Ytlimabbeaimdgaa.lServeRequests
open Go.RowKit

def okD (L : shModel.T) (l : shRequestS.T) (z wt wk : Int) : Prop := reqB L.1 l = true ∧ inB z 1 16 = true ∧ inB wt 0 100000 = true ∧ inB wk 1 100000 = true
instance (L : shModel.T) (l : shRequestS.T) (z wt wk : Int) : Decidable (okD L l z wt wk) := by unfold okD; infer_instance
def outF (L : List shLayer.T) (l : List shRequest.T) (j : Nat) : List Nat := curF L (rowR l j) L.length
def res (L : shModel.T) (l : shRequestS.T) (z wt wk : Int) : shAnswerS.T × Bool := if okD L l z wt wk then (ansL (outF L.1 l) (sv (atR l) (List.length l) z.toNat wt wk) wk (List.length l), true) else ([], false)
theorem res_no {L : shModel.T} {l : shRequestS.T} {z wt wk : Int} (h : ¬ okD L l z wt wk) : res L l z wt wk = ([], false) := by unfold res; rw [if_neg h]
theorem okD_of {L : shModel.T} {l : shRequestS.T} {z wt wk : Int} (h : okD L l z wt wk) : ∃ Z : Nat, z = Z ∧ ModOk L.1 ∧ ReqOk (inL L.1 0) l ∧ SvOk (atR l) (List.length l) Z wt wk ∧ (∀ j, j < List.length l → (outF L.1 l j).length ≤ 8) := by
  obtain ⟨h1, h2, h3, h4⟩ := h
  unfold reqB at h1
  simp only [Bool.and_eq_true, decide_eq_true_eq] at h1
  obtain ⟨g1, g2, g3⟩ := h1
  rw [inB_true] at h2 h3 h4
  have hM := modOk g1
  have hR := reqOk g3
  obtain ⟨Z, rfl⟩ := Int.eq_ofNat_of_zero_le (show 0 ≤ z by omega)
  refine ⟨Z, rfl, hM, hR, ⟨hR.lo, fun i k hk => hR.le k hk, by omega, by omega, h3, h4, g2⟩, fun j hj => ?_⟩
  have h5 := cur_out hM (x := rowR l j) (hR.len j hj)
  obtain ⟨m, hm, hm1, hm8⟩ := outL_nat hM
  unfold outF
  omega
theorem res_bd (L : shModel.T) (l : shRequestS.T) (z wt wk : Int) (_ : tot shModel L ≤ 1048576) (_ : tot shRequestS l ≤ 1048576) (_ : Fit shModel L) (_ : Fit shRequestS l) (_ : Fit .int z) (_ : Fit .int wt) (_ : Fit .int wk) : tot shAnswerS (res L l z wt wk).1 ≤ 1048576 := by
  by_cases h : okD L l z wt wk
  · obtain ⟨Z, rfl, hM, hR, hS, h8⟩ := okD_of h
    have h1 := tot_ans (outF L.1 l) (sv (atR l) (List.length l) (Z : Int).toNat wt wk) wk (List.length l) h8
    have h2 := hS.n20
    unfold res
    rw [if_pos h]
    show tot shAnswerS (ansL (outF L.1 l) (sv (atR l) (List.length l) (Z : Int).toNat wt wk) wk (List.length l)) ≤ _
    omega
  · rw [res_no h]; simp [tot]
set_option maxRecDepth 100000 in
set_option maxHeartbeats 4000000 in
theorem impl_ok (cs0 : List Value) (D0 : shModel.T) (cs1 : List Value) (D1 : shRequestS.T) (z wt wk : Int) (w : World) (h0 : Rep w shModel cs0 D0) (h1 : Rep w shRequestS cs1 D1) (f0 : Fit shModel D0) (_ : Fit shRequestS D1) (_ : Fit .int z) (_ : Fit .int wt) (_ : Fit .int wk) : Calls Try.prog 44 #[ofCs shModel cs0, ofCs shRequestS cs1, .int .i64 z, .int .i64 wt, .int .i64 wk] w (OutOk w shAnswerS (res D0 D1 z wt wk)) := by
  obtain ⟨L0, u0⟩ := D0
  obtain ⟨c0, c1, rfl, k0, rfl⟩ := h0
  obtain ⟨p, c, rfl, _⟩ := rep_val k0
  obtain ⟨p', c', css, he0, L⟩ := lays_of k0 f0.1
  cases he0
  obtain ⟨q, cq, csq, rfl, hnc, HR⟩ := reqs_of h1
  simp only [ofCs, Sh.agg, List.headD_cons, Bool.false_eq_true, if_false, if_true, List.append_nil]
  obtain ⟨W0, hW0⟩ : ∃ W0, W0 = w.alloc (.cells #[.slice p L0.length c] 33) := ⟨_, rfl⟩
  have E0 : Ext w W0 := by subst hW0; exact Ext.alloc _ _
  have a0 : W0.cell? ⟨w.heap.size, 0, none⟩ = some (.slice p L0.length c) := by subst hW0; simp
  have A := hid (areRequests_any p q L0.length c (List.length D1) cq css csq L0 D1 W0 (L.ext E0) (HR.ext E0))
  have B1 := hid (fun W => isSide_any z W)
  have B2 := hid (fun W => within_any wt 0 100000 W)
  have B3 := hid (fun W => within_any wk 1 100000 W)
  cases hb0 : reqB L0 D1
  · rw [res_no (fun h => by have := h.1; dsimp only at this; rw [hb0] at this; cases this)]
    rw [hb0] at A
    clear k0 L HR h1 f0
    generalize L0.length = n0 at *
    generalize List.length D1 = n at *
    go_enter Try.func44, Try.ntmps44
    go_wp2_with fail
    rw [← hW0]
    clear hW0
    refine A.out.mono ?_
    rintro e w1 ⟨rfl, e1⟩
    have m1 := e1.cell a0
    go_wp2
    go_ret2
    exact outOk_no rfl (E0.trans e1)
  rw [hb0] at A
  cases hb1 : inB z 1 16
  · rw [res_no (fun h => by have := h.2.1; rw [hb1] at this; cases this)]
    rw [hb1] at B1
    clear k0 L HR h1 f0
    generalize L0.length = n0 at *
    generalize List.length D1 = n at *
    go_enter Try.func44, Try.ntmps44
    go_wp2_with fail
    rw [← hW0]
    clear hW0
    refine A.out.mono ?_
    rintro e w1 ⟨rfl, e1⟩
    have m1 := e1.cell a0
    go_wp2_with fail
    refine (B1.out _).mono ?_
    rintro e w2 ⟨rfl, rfl⟩
    go_wp2
    go_ret2
    exact outOk_no rfl (E0.trans e1)
  rw [hb1] at B1
  cases hb2 : inB wt 0 100000
  · rw [res_no (fun h => by have := h.2.2.1; rw [hb2] at this; cases this)]
    rw [hb2] at B2
    clear k0 L HR h1 f0
    generalize L0.length = n0 at *
    generalize List.length D1 = n at *
    go_enter Try.func44, Try.ntmps44
    go_wp2_with fail
    rw [← hW0]
    clear hW0
    refine A.out.mono ?_
    rintro e w1 ⟨rfl, e1⟩
    have m1 := e1.cell a0
    go_wp2_with fail
    refine (B1.out _).mono ?_
    rintro e w2 ⟨rfl, rfl⟩
    go_wp2_with fail
    refine (B2.out _).mono ?_
    rintro e w3 ⟨rfl, rfl⟩
    go_wp2
    go_ret2
    exact outOk_no rfl (E0.trans e1)
  rw [hb2] at B2
  cases hb3 : inB wk 1 100000
  · rw [res_no (fun h => by have := h.2.2.2; rw [hb3] at this; cases this)]
    rw [hb3] at B3
    clear k0 L HR h1 f0
    generalize L0.length = n0 at *
    generalize List.length D1 = n at *
    go_enter Try.func44, Try.ntmps44
    go_wp2_with fail
    rw [← hW0]
    clear hW0
    refine A.out.mono ?_
    rintro e w1 ⟨rfl, e1⟩
    have m1 := e1.cell a0
    go_wp2_with fail
    refine (B1.out _).mono ?_
    rintro e w2 ⟨rfl, rfl⟩
    go_wp2_with fail
    refine (B2.out _).mono ?_
    rintro e w3 ⟨rfl, rfl⟩
    go_wp2_with fail
    refine (B3.out _).mono ?_
    rintro e w4 ⟨rfl, rfl⟩
    go_wp2
    go_ret2
    exact outOk_no rfl (E0.trans e1)
  rw [hb3] at B3
  have hok : okD (L0, u0) D1 z wt wk := ⟨hb0, hb1, hb2, hb3⟩
  obtain ⟨Z, rfl, hM, hRq, hS, _⟩ := okD_of hok
  have hres : res (L0, u0) D1 Z wt wk = (ansL (outF L0 D1) (sv (atR D1) (List.length D1) Z wt wk) wk (List.length D1), true) := by
    unfold res; rw [if_pos hok]; rfl
  rw [hres]
  dsimp only at hM hRq
  have St := hid (fun W (h : Ext W0 W) j (hj : j < List.length D1) q5 m5 c5 (hX : Rep W (.sl .flt) [.slice q5 m5 c5] (rowR D1 j)) => stages_any p q5 L0.length c m5 c5 css L0 (rowR D1 j) W (L.ext (E0.trans h)) hM hX (hRq.len j hj))
  have HSv := hid hS
  have hn20 := hS.n20
  have hz1 := hS.z1
  have hz16 := hS.z16
  have hwt := hS.wt0
  have hwk := hS.wk1
  have hn1 := hM.pos
  have hn6 := hM.few
  have Hlo := hid hS.lo
  have l1 := HR.cs; have l2 := HR.all; have l3 := HR.size; have l5 := hid HR.cnt
  have hF := hid (fun j => show curF L0 (rowR D1 j) L0.length = outF L0 D1 j from rfl)
  have Hbg := hid (fun i (hi : i < List.length D1) free F h0 h1 h2 => beg_bd hS hi (free := free) (F := F) h0 h1 h2)
  have Hend := hid (fun i k b free hi h0 hs hk hl hstop => sv_end hS (i := i) (k := k) (b := b) (free := free) hi h0 hs hk hl hstop)
  clear k0 L HR h1 f0 hb0 hb1 hb2 hb3 hok hM hRq hS hres
  generalize outF L0 D1 = f at *
  generalize hnn : List.length D1 = n at *
  have HN := hid hnn
  clear hnn
  generalize L0.length = n0 at *
  go_enter Try.func44, Try.ntmps44
  go_wp2_with fail
  rw [← hW0]
  clear hW0
  refine A.out.mono ?_
  rintro e w1 ⟨rfl, e1⟩
  have m1 := e1.cell a0
  go_wp2_with fail
  refine (B1.out _).mono ?_
  rintro e w2 ⟨rfl, rfl⟩
  go_wp2_with fail
  refine (B2.out _).mono ?_
  rintro e w3 ⟨rfl, rfl⟩
  go_wp2_with fail
  refine (B3.out _).mono ?_
  rintro e w4 ⟨rfl, rfl⟩
  have hst : (w1.alloc (.cells #[] 85)).ownsRow w1.heap.size 85 (Sh.sz shAnswer) (.slice (some ⟨w1.heap.size, 0, none⟩) 0 0) 0 [] := World.ownsRow_made w1 #[] 0 (Nat.le_refl _) (by decide) rfl
  have e2 := e1.trans (Ext.alloc w1 (.cells #[] 85))
  clear A B1 B2 B3
  go_wp2_with fail
  generalize hW2 : w1.alloc (.cells #[] 85) = W2 at *
  go_loopw [12, 13, 14] (fun ov fv bv wr => ∃ (i b : Nat) (free : Int) (q6 : Option Addr) (c6 : Nat) (cs : List (List Value)) (bss : List (List Nat)), i ≤ n ∧ ov = .slice q6 i c6 ∧ fv = .int .i64 free ∧ bv = .int .i64 b ∧ (i < n → Hid (sv (atR D1) n Z wt wk i = (i, b, beg (atR D1) n Z wt free i))) ∧ 0 ≤ free ∧ free ≤ 200000 + 100000 * i ∧ b ≤ i ∧ GrowOwn wr w1.heap.size 85 shAnswer (.slice q6 i c6) (ansL f (sv (atR D1) n Z wt wk) wk i) cs bss ∧ Ext W0 wr ∧ w1.heap.size ≤ wr.heap.size) (fun ov _ _ _ => match ov with | .slice _ i _ => n - i | _ => 0)
  case atStart => exact ⟨0, 0, 0, _, _, [], [], by omega, rfl, rfl, rfl, fun _ => rfl, by omega, by omega, by omega, GrowOwn.empty hst, e2, by rw [← hW2]; simp⟩
  case round =>
    clear hst e2 hW2
    obtain ⟨i, b, free, q6, c6, cs, bss, hi, rfl, rfl, rfl, HS, hf0, hf1, hbi, hg, he, hsz⟩ := hrel
    by_cases hlt : i < n
    · have hiD : i < List.length D1 := by rw [HN.out]; exact hlt
      have hp := l1.ext (E0.trans he)
      have hpr := rest_cs (s := 2) hp l3 l5.out (i := i) (by omega) hnc
      have hdl := hid (show (csq.drop i).length = n - i by rw [List.length_drop, l5.out])
      have hall : ∀ x ∈ csq.drop i, x.length = shRequest.sz := fun x hx => l3 x (List.mem_of_mem_drop hx)
      have hsr : (subp q 2 i cq).isSome = true := hpr.some_of (s := 2) hall (by decide) (i := 0) (by rw [hdl.out]; omega)
      obtain ⟨ci, hci, ri⟩ := l2.get i D1[i] (by simp)
      obtain ⟨pr, cr, rfl, _, _⟩ := req_cells ri
      rw [show D1[i].1 = atR D1 i from (atR_eq hiD).symm] at hci
      have hd0 := hid (show (csq.drop i)[0]? = some [.int .i64 (atR D1 i), .slice pr (List.length D1[i].2.1) cr] by rw [List.getElem?_drop, Nat.add_zero]; exact hci)
      have hai := Hlo.out i hlt
      obtain ⟨hb0, hb1, hb2⟩ := Hbg.out i hlt free (200000 + 100000 * i) hf0 hf1 (by omega)
      obtain ⟨B, hB⟩ : ∃ B, B = beg (atR D1) n Z wt free i := ⟨_, rfl⟩
      have hBB := hid hB
      rw [← hB] at hb0 hb1 hb2
      have HS2 := HS hlt
      have q1 : IntKind.i64.wrap (atR D1 i + wt) = atR D1 i + wt := wrap_in _ (by omega) (by omega)
      have qB : IntKind.i64.wrap (B + wk) = B + wk := wrap_in _ (by omega) (by omega)
      obtain ⟨rem, hrem⟩ : ∃ rem, rem = n - i := ⟨_, rfl⟩
      rw [← hrem] at hdl
      have Hrem := hid hrem
      have hr0 : 0 < rem := by omega
      clear ri hci HS hB
      by_cases hz : i + Z ≤ n
      case' pos =>
        have hizD : i + Z - 1 < List.length D1 := by rw [HN.out]; omega
        obtain ⟨cz, hcz, rz⟩ := l2.get (i + Z - 1) D1[i + Z - 1] (by simp)
        obtain ⟨pz, cz', rfl, _, _⟩ := req_cells rz
        rw [show D1[i + Z - 1].1 = atR D1 (i + Z - 1) from (atR_eq hizD).symm] at hcz
        have hdz := hid (show (csq.drop i)[Z - 1]? = some [.int .i64 (atR D1 (i + Z - 1)), .slice pz (List.length D1[i + Z - 1].2.1) cz'] by rw [List.getElem?_drop, show i + (Z - 1) = i + Z - 1 by omega]; exact hcz)
        have hbe : max (min (atR D1 i + wt) (atR D1 (i + Z - 1))) free = B := by rw [hBB.out]; unfold beg; rw [if_pos hz]; omega
        have hd1 : decide ((Z : Int) ≤ (rem : Int)) = true := by simp; omega
        have hd2 : decide (Z ≤ rem) = true := by simp; omega
        have qz : IntKind.i64.wrap ((Z : Int) - 1) = ((Z - 1 : Nat) : Int) := by rw [show (Z : Int) - 1 = ((Z - 1 : Nat) : Int) by omega]; exact wrap_in _ (by omega) (by omega)
        have hZr : Z - 1 < rem := by omega
        clear rz hcz hz
        go_wp2_with (first | (refine wl_sliceFrom (l := i) rfl rfl rfl rfl rfl (by omega) (by omega) ?_; rw [← hrem]; clear hrem) | ((with_reducible show wpList _ _ _ (Oper.mk _ (Op.indexAddr _ _ _) _ _ _ _ :: Oper.mk _ (Op.fieldAddr _ _ _) _ _ _ _ :: _) _ _); refine wl_ldField (f := 0) (off := 0) (j := 0) rfl rfl rfl rfl rfl rfl (fun _ => rfl) (fun _ _ => rfl) fo_implRequest_0 rfl rfl rfl hpr hall hdl.out (by omega) hsr hd0.out rfl ?_) | ((with_reducible show wpList _ _ _ (Oper.mk _ (Op.indexAddr _ _ _) _ _ _ _ :: Oper.mk _ (Op.fieldAddr _ _ _) _ _ _ _ :: _) _ _); refine wl_ldField (f := 0) (off := 0) (j := Z - 1) rfl rfl rfl rfl rfl rfl (fun _ => rfl) (fun _ _ => rfl) fo_implRequest_0 rfl rfl (by first | exact qz | omega) hpr hall hdl.out hZr hsr hdz.out rfl ?_) | (refine wl_minI rfl rfl rfl rfl ?_) | (refine wl_maxI rfl rfl rfl rfl ?_; rw [hbe]))
      case' neg =>
        have hbe : max (atR D1 i + wt) free = B := by rw [hBB.out]; unfold beg; rw [if_neg hz]; omega
        have hd1 : decide ((Z : Int) ≤ (rem : Int)) = false := by simp; omega
        have hd2 : decide (Z ≤ rem) = false := by simp; omega
        clear hz
        go_wp2_with (first | (refine wl_sliceFrom (l := i) rfl rfl rfl rfl rfl (by omega) (by omega) ?_; rw [← hrem]; clear hrem) | ((with_reducible show wpList _ _ _ (Oper.mk _ (Op.indexAddr _ _ _) _ _ _ _ :: Oper.mk _ (Op.fieldAddr _ _ _) _ _ _ _ :: _) _ _); refine wl_ldField (f := 0) (off := 0) (j := 0) rfl rfl rfl rfl rfl rfl (fun _ => rfl) (fun _ _ => rfl) fo_implRequest_0 rfl rfl rfl hpr hall hdl.out (by omega) hsr hd0.out rfl ?_) | (refine wl_maxI rfl rfl rfl rfl ?_; rw [hbe]))
      all_goals
        have hrn : rem + i = n := by have := Hrem.out; omega
        have e17 := he
        go_loopw [12, 77] (fun ov kv wq => ∃ (k : Nat) (q7 : Option Addr) (c7 : Nat) (cs7 : List (List Value)) (bss7 : List (List Nat)), k ≤ rem ∧ k ≤ Z ∧ kv = .int .i64 k ∧ ov = .slice q7 (i + k) c7 ∧ (1 ≤ k → Hid (sv (atR D1) n Z wt wk (i + k - 1) = (i, b, beg (atR D1) n Z wt free i))) ∧ GrowOwn wq w1.heap.size 85 shAnswer (.slice q7 (i + k) c7) (ansL f (sv (atR D1) n Z wt wk) wk (i + k)) cs7 bss7 ∧ Ext W0 wq ∧ wr.heap.size ≤ wq.heap.size) (fun _ kv _ => rem - (intOf kv).toNat)
        case atStart => exact ⟨0, q6, c6, cs, bss, by omega, by omega, rfl, rfl, fun h => by omega, hg, he, Nat.le_refl _⟩
        case round =>
          clear hg
          obtain ⟨k, q7, c7, cs7, bss7, hk, hkz, rfl, rfl, HL, hg7, he7, hsz7⟩ := hrel
          have he7' := he7
          by_cases hkr : k < rem
          · have hkD : i + k < List.length D1 := by rw [HN.out]; omega
            obtain ⟨ck0, hck, rk⟩ := l2.get (i + k) D1[i + k] (by simp)
            have one := rk.one
            obtain ⟨pk, ck, rfl, rrk, hmk⟩ := req_cells rk
            have ea : D1[i + k].1 = atR D1 (i + k) := (atR_eq hkD).symm
            have er : D1[i + k].2.1 = rowR D1 (i + k) := (rowR_eq hkD).symm
            rw [ea, er] at hck one
            rw [er] at rrk hmk
            have hdk0 : (csq.drop i)[k]? = csq[i + k]? := by rw [List.getElem?_drop]
            rw [hck] at hdk0
            have St2 := hid (fun W (h : Ext wr W) => St.out W (he7.trans h) (i + k) (by omega) pk _ ck (rrk.ext (E0.trans (he7.trans h))))
            generalize (rowR D1 (i + k)).length = m at *
            have hdk := hid hdk0
            have hprk := rest_cs (s := 2) (l1.ext (E0.trans he7)) l3 l5.out (i := i) (by omega) hnc
            have Hlok := Hlo.out (i + k) (by omega)
            clear hdk0 hck rk rrk ea er hmk
            by_cases hkZ : k = Z
            · have hE := beq_t (show (k : Int) = (Z : Int) by omega)
              have HkZ := hid hkZ
              clear hkZ
              go_wp2_with (first | ((with_reducible show wpList _ _ _ (Oper.mk _ (Op.indexAddr _ _ _) _ _ _ _ :: Oper.mk _ (Op.load _ _) _ _ _ _ :: _) _ _); refine wl_idxloadE (s := shRequest) (j := k) rfl rfl rfl rfl (fun _ => rfl) rfl rfl rfl hprk hall hdl.out hkr hsr hdk.out ?_; simp only [ofCs, Sh.agg, if_true]) | ((with_reducible show wpList _ _ _ (Oper.mk _ (Op.store _ _ _) _ _ _ _ :: _) _ _); refine wl_stA (s := shRequest) (cs := [.int .i64 (atR D1 (i + k)), .slice pk m ck]) rfl rfl rfl rfl (heap_alloc_new _ _) rfl rfl one (by decide) ?_; intro w5 c5 ch5; have E5 : Ext wr w5 := (Ext.alloc _ _).chg ch5 (fun b hb => by subst hb; exact Nat.le_refl _); clear ch5; have b0 := cs_cellq c5 0 rfl; have b1 := cs_cellq c5 1 rfl; have m0 := (he7.trans E5).cell a0))
              replace he7' := he7'.trans E5
              replace hg7 := hg7.ext E5
              have HE := Hend.out i k b free hlt hf0 HS2.out (by omega) (fun h => (HL h).out) (.inr (.inl HkZ.out))
              rw [← hBB.out] at HE
              go_roundw
              case rel => exact ⟨i + k, b + 1, B + wk, q7, c7, cs7, bss7, by omega, rfl, rfl, by go_num, fun h => HE.2 h, by omega, by have := HE.1; push_cast; omega, by have := HE.1; omega, hg7, he7', by have := hsz7; have := E5.size; omega⟩
              case measure => have := HE.1; simp; omega
            · have hE := beq_f (show ¬ (k : Int) = (Z : Int) by omega)
              by_cases hA : atR D1 (i + k) ≤ B
              · have hT := decide_eq_false (show ¬ B < atR D1 (i + k) by omega)
                have HG := hid (sv_go (k := k) HS2.out (fun h => (HL h).out) (by omega) (by rw [← hBB.out]; exact hA))
                go_wp2_with (first | ((with_reducible show wpList _ _ _ (Oper.mk _ (Op.indexAddr _ _ _) _ _ _ _ :: Oper.mk _ (Op.load _ _) _ _ _ _ :: _) _ _); refine wl_idxloadE (s := shRequest) (j := k) rfl rfl rfl rfl (fun _ => rfl) rfl rfl rfl hprk hall hdl.out hkr hsr hdk.out ?_; simp only [ofCs, Sh.agg, if_true]) | ((with_reducible show wpList _ _ _ (Oper.mk _ (Op.store _ _ _) _ _ _ _ :: _) _ _); refine wl_stA (s := shRequest) (cs := [.int .i64 (atR D1 (i + k)), .slice pk m ck]) rfl rfl rfl rfl (heap_alloc_new _ _) rfl rfl one (by decide) ?_; intro w5 c5 ch5; have E5 : Ext wr w5 := (Ext.alloc _ _).chg ch5 (fun b hb => by subst hb; exact Nat.le_refl _); clear ch5; have b0 := cs_cellq c5 0 rfl; have b1 := cs_cellq c5 1 rfl; have m0 := (he7.trans E5).cell a0))
                refine (St2.out _ E5).mono ?_
                rintro e w6 ⟨v6, css6, bss6, rfl, g6, e6⟩
                obtain ⟨p8, k8, q8, m8, c8, css8, bs8, rfl, hp8, hall8, hcnt8, hs8, hget8, own8, nd8, lo8, len8⟩ := IsSt.lastOwn ⟨css6, bss6, g6⟩ hn1
                rw [hF.out] at own8 len8
                have len8 := hid len8
                have EW := E5.trans e6
                have hrow7 := hg7.row
                rw [ansL_len] at hrow7
                have qn : IntKind.i64.wrap ((n0 : Int) - 1) = ((n0 - 1 : Nat) : Int) := by rw [show (n0 : Int) - 1 = ((n0 - 1 : Nat) : Int) by omega]; exact wrap_in _ (by omega) (by omega)
                clear g6
                go_wp2_with (first | ((with_reducible show wpList _ _ _ (Oper.mk _ (Op.indexAddr _ _ _) _ _ _ _ :: Oper.mk _ (Op.load _ _) _ _ _ _ :: _) _ _); refine wl_idxloadE (s := (.sl .flt)) (j := n0 - 1) rfl rfl rfl rfl (fun _ => rfl) rfl rfl (by first | rfl | exact qn | omega) hp8 hall8 hcnt8 (by omega) hs8 hget8 ?_; simp only [ofCs, Sh.agg, List.headD_cons, Bool.false_eq_true, if_false]) | ((with_reducible show wpList _ _ _ (Oper.mk _ (Op.buildSlice _ _ _) _ _ _ _ :: Oper.mk _ (Op.call _) _ _ _ _ :: _) _ _); refine wl_app1b (u := .agg #[.int .i64 (B + wk), .int .i64 b, .slice q8 m8 c8]) rfl rfl rfl rfl rfl (by rfl) (by rfl) (fun _ => rfl) (fun _ => rfl) (own_ext hrow7 EW) (by unfold maxLen; omega) (by omega) (by have := hsz7; have := EW.size; omega) ?_; intro g9 c9 w9 own9 gr9 hw9))
                go_roundw
                case rel =>
                  have H9 := hg7.snoc EW (own_ans (a := B + wk) (b := (b : Int)) len8.out own8) nd8 (fun b hb => Nat.le_trans E5.size (lo8 b hb)) (by have := hsz7; omega) (ansL_len _ _ _ _) own9 gr9 hw9
                  have H10 : ansL f (sv (atR D1) n Z wt wk) wk (i + (k + 1)) = ansL f (sv (atR D1) n Z wt wk) wk (i + k) ++ [(B + wk, (b : Int), f (i + k), ())] := by
                    rw [show i + (k + 1) = i + k + 1 by omega, ansL_succ, HG.out, hBB.out]
                  rw [← H10] at H9
                  exact ⟨k + 1, _, _, _, _, by omega, by omega, by go_num, rfl, fun _ => HG.out, H9, (he7.trans EW).grown gr9 (fun kk hk9 => by have := own_le hrow7 kk hk9; have := e1.size; omega), by have := hsz7; have := EW.size; have := gr9.size; omega⟩
                case measure => simp [intOf]; omega
              · have hT := decide_eq_true (show B < atR D1 (i + k) by omega)
                go_wp2_with (first | ((with_reducible show wpList _ _ _ (Oper.mk _ (Op.indexAddr _ _ _) _ _ _ _ :: Oper.mk _ (Op.load _ _) _ _ _ _ :: _) _ _); refine wl_idxloadE (s := shRequest) (j := k) rfl rfl rfl rfl (fun _ => rfl) rfl rfl rfl hprk hall hdl.out hkr hsr hdk.out ?_; simp only [ofCs, Sh.agg, if_true]) | ((with_reducible show wpList _ _ _ (Oper.mk _ (Op.store _ _ _) _ _ _ _ :: _) _ _); refine wl_stA (s := shRequest) (cs := [.int .i64 (atR D1 (i + k)), .slice pk m ck]) rfl rfl rfl rfl (heap_alloc_new _ _) rfl rfl one (by decide) ?_; intro w5 c5 ch5; have E5 : Ext wr w5 := (Ext.alloc _ _).chg ch5 (fun b hb => by subst hb; exact Nat.le_refl _); clear ch5; have b0 := cs_cellq c5 0 rfl; have b1 := cs_cellq c5 1 rfl; have m0 := (he7.trans E5).cell a0))
                replace he7' := he7'.trans E5
                replace hg7 := hg7.ext E5
                have HE := Hend.out i k b free hlt hf0 HS2.out (by omega) (fun h => (HL h).out) (.inr (.inr ⟨by omega, by rw [← hBB.out]; omega⟩))
                rw [← hBB.out] at HE
                go_roundw
                case rel => exact ⟨i + k, b + 1, B + wk, q7, c7, cs7, bss7, by omega, rfl, rfl, by go_num, fun h => HE.2 h, by omega, by have := HE.1; push_cast; omega, by have := HE.1; omega, hg7, he7', by have := hsz7; have := E5.size; omega⟩
                case measure => have := HE.1; simp; omega
          · obtain rfl : k = rem := by omega
            go_wp2
            have HE := Hend.out i k b free hlt hf0 HS2.out (by omega) (fun h => (HL h).out) (.inl (by omega))
            rw [← hBB.out] at HE
            go_roundw
            case rel => exact ⟨i + k, b + 1, B + wk, q7, c7, cs7, bss7, by omega, rfl, rfl, by go_num, fun h => HE.2 h, by omega, by have := HE.1; push_cast; omega, by have := HE.1; omega, hg7, he7', by have := hsz7; omega⟩
            case measure => have := HE.1; simp; omega
    · obtain rfl : i = n := by omega
      go_wp2
      go_ret2
      obtain ⟨bs, ho, hnd, hlo⟩ := hg.own
      exact ⟨[.slice q6 i c6], bs, rfl, ho, hnd, fun b hb => Nat.le_trans (E0.trans e1).size (hlo b hb), E0.trans he⟩
end Go.Proofs.Ytlimabbeaimdgaa.lServeRequests
/- FnServed: batches, the plain part. -/
namespace Go.Proofs.Ytlimabbeaimdgaa.lServed
set_option linter.unusedSimpArgs false
set_option linter.unusedVariables false
open Go.RowKit

section
variable {A : Nat → Int} {n z : Nat} {wt wk : Int}
theorem sv_eq (j : Nat) : sv A n z wt wk (j + 1) = if j + 1 - (sv A n z wt wk j).1 < z ∧ A (j + 1) ≤ (sv A n z wt wk j).2.2 then sv A n z wt wk j else (j + 1, (sv A n z wt wk j).2.1 + 1, beg A n z wt ((sv A n z wt wk j).2.2 + wk) (j + 1)) := rfl
theorem sv_size (hz : 1 ≤ z) : ∀ j, (sv A n z wt wk j).1 ≤ j ∧ j - (sv A n z wt wk j).1 < z
  | 0 => ⟨Nat.le_refl _, by show 0 - 0 < z; omega⟩
  | j + 1 => by
    have ih := sv_size hz j
    rw [sv_eq]
    split
    · rename_i h; exact ⟨by omega, h.1⟩
    · exact ⟨Nat.le_refl _, by show j + 1 - (j + 1) < z; omega⟩
/-- The sizes so far. -/
structure SizeOk (A : Nat → Int) (n z : Nat) (wt wk : Int) (j : Nat) (o : List Int) : Prop where
  len : o.length = (sv A n z wt wk j).2.1 + 1
  all : ∀ x ∈ o, 1 ≤ x ∧ x ≤ z
  last : o.getD (o.length - 1) 0 = ((j - (sv A n z wt wk j).1 + 1 : Nat) : Int)
theorem go_append : ∀ (l : List shAnswer.T) (o : List Int) (d : shAnswer.T), lBatchSizes.go o (l ++ [d]) = (lBatchSizes.go o l).bind fun o' => lBatchSizes.more o' d.2.1
  | [], o, d => by
    simp only [List.nil_append, lBatchSizes.go, Option.bind_some]
    cases lBatchSizes.more o d.2.1 <;> rfl
  | x :: l, o, d => by
    simp only [List.cons_append, lBatchSizes.go]
    cases lBatchSizes.more o x.2.1 with
    | none => rfl
    | some o' => exact go_append l o' d
theorem sizes_ok (hz : 1 ≤ z) (f : Nat → List Nat) : ∀ j, ∃ o, lBatchSizes.go [] (ansL f (sv A n z wt wk) wk (j + 1)) = some o ∧ SizeOk A n z wt wk j o
  | 0 => by
    refine ⟨[1], ?_, rfl, fun x hx => by simp at hx; subst hx; omega, rfl⟩
    rw [ansL_succ, go_append]; rfl
  | j + 1 => by
    obtain ⟨o, h1, h2, h3, h4⟩ := sizes_ok hz f j
    have hs := sv_size (A := A) (n := n) (wt := wt) (wk := wk) hz j
    have hs1 := sv_size (A := A) (n := n) (wt := wt) (wk := wk) hz (j + 1)
    rw [ansL_succ, go_append, h1, Option.bind_some]
    have he := sv_eq (A := A) (n := n) (z := z) (wt := wt) (wk := wk) j
    by_cases hc : j + 1 - (sv A n z wt wk j).1 < z ∧ A (j + 1) ≤ (sv A n z wt wk j).2.2
    · rw [if_pos hc] at he
      refine ⟨o.set (o.length - 1) (o.getD (o.length - 1) 0 + 1), ?_, ?_, ?_, ?_⟩
      · unfold lBatchSizes.more
        have hb : (((sv A n z wt wk (j + 1)).2.1 : Nat) : Int) = ((o.length : Nat) : Int) - 1 := by rw [he, h2]; omega
        rw [if_neg (by dsimp only; omega), if_pos ⟨hb, by omega⟩]
      · rw [List.length_set, he, h2]
      · intro x hx
        rcases List.mem_or_eq_of_mem_set hx with hx | rfl
        · exact h3 x hx
        · rw [h4]; have := hc.1; omega
      · rw [List.length_set, List.getD_eq_getElem?_getD, List.getElem?_set_self (by omega), Option.getD_some, h4, he]
        omega
    · rw [if_neg hc] at he
      refine ⟨o ++ [1], ?_, ?_, ?_, ?_⟩
      · unfold lBatchSizes.more
        rw [if_pos (by rw [he, h2])]
      · rw [List.length_append, he, h2]; rfl
      · intro x hx
        rcases List.mem_append.1 hx with hx | hx
        · exact h3 x hx
        · simp at hx; subst hx; omega
      · rw [he]; simp
/-- What the longest delay is so far. -/
def mx (A : Nat → Int) (s : Nat → Nat × Nat × Int) (wk : Int) : Nat → Int
  | 0 => 0
  | k + 1 => max (mx A s wk k) ((s k).2.2 + wk - A k)
structure Tight (A : Nat → Int) (n z : Nat) (wt wk : Int) : Prop where
  lo : ∀ i, i < n → 0 ≤ A i ∧ A i ≤ 40
  mono : ∀ i k, i + k < n → A i ≤ A (i + k)
  n8 : n ≤ 8
  z1 : 1 ≤ z
  z4 : z ≤ 4
  wt0 : 0 ≤ wt ∧ wt ≤ 7
  wk1 : 1 ≤ wk ∧ wk ≤ 6
theorem Tight.ok (h : Tight A n z wt wk) : SvOk A n z wt wk :=
  ⟨fun i hi => by have := h.lo i hi; omega, h.mono, h.z1, by have := h.z4; omega, by have := h.wt0; omega, by have := h.wk1; omega, by have := h.n8; omega⟩
theorem beg_t (h : Tight A n z wt wk) {i : Nat} (hi : i < n) {free F : Int} (h0 : 0 ≤ free) (hF : free ≤ F) (h2 : 47 ≤ F) : A i ≤ beg A n z wt free i ∧ beg A n z wt free i ≤ F := by
  have a1 := h.lo i hi
  have a2 := h.wt0
  refine ⟨(beg_bd h.ok hi (free := free) (F := max free 200000) h0 (by omega) (by omega)).2.2, ?_⟩
  unfold beg
  split <;> omega
theorem sv_t (h : Tight A n z wt wk) : ∀ j, j < n → A j ≤ (sv A n z wt wk j).2.2 ∧ (sv A n z wt wk j).2.2 ≤ 47 + 6 * j
  | 0, hj => by
    have := beg_t h hj (free := 0) (F := 47) (by omega) (by omega) (by omega)
    exact ⟨this.1, by simpa [sv] using this.2⟩
  | j + 1, hj => by
    obtain ⟨h1, h2⟩ := sv_t h j (by omega)
    have a2 := h.wk1
    have a3 := h.lo j (by omega)
    rw [sv_eq]
    split
    · rename_i hc; exact ⟨hc.2, by push_cast; omega⟩
    · obtain ⟨g1, g2⟩ := beg_t h hj (free := (sv A n z wt wk j).2.2 + wk) (F := 47 + 6 * ((j + 1 : Nat) : Int)) (by omega) (by push_cast; omega) (by push_cast; omega)
      exact ⟨g1, g2⟩
theorem mx_bd (h : Tight A n z wt wk) : ∀ k, k ≤ n → 0 ≤ mx A (sv A n z wt wk) wk k ∧ mx A (sv A n z wt wk) wk k ≤ 200
  | 0, _ => by simp [mx]
  | k + 1, hk => by
    have ih := mx_bd h k (by omega)
    have h1 := sv_t h k (by omega)
    have h2 := h.lo k (by omega)
    have h3 := h.wk1
    have h4 := h.n8
    rw [mx]; omega
theorem ans_at (f : Nat → List Nat) (s : Nat → Nat × Nat × Int) {k i : Nat} (hi : i < k) : (ansL f s wk k)[i]? = some ((s i).2.2 + wk, ((s i).2.1 : Int), f i, ()) := by simp [ansL, hi]
theorem del_ok {l : List shRequest.T} (h : Tight (atR l) l.length z wt wk) (f : Nat → List Nat) : ∀ k, k ≤ l.length → lLongestDelay.delGo (l.drop (l.length - k)) ((ansL f (sv (atR l) l.length z wt wk) wk l.length).drop (l.length - k)) (mx (atR l) (sv (atR l) l.length z wt wk) wk (l.length - k)) = some (mx (atR l) (sv (atR l) l.length z wt wk) wk l.length)
  | 0, _ => by
    rw [Nat.sub_zero, List.drop_of_length_le (Nat.le_refl _)]
    simp [lLongestDelay.delGo]
  | k + 1, hk => by
    have ih := del_ok h f k (by omega)
    obtain ⟨i, hi⟩ : ∃ i, i = l.length - (k + 1) := ⟨_, rfl⟩
    have hi1 : l.length - k = i + 1 := by omega
    have hil : i < l.length := by omega
    rw [hi1] at ih
    rw [← hi]
    have ha := ans_at (wk := wk) f (sv (atR l) l.length z wt wk) hil
    obtain ⟨hal, hav⟩ := List.getElem?_eq_some_iff.1 ha
    have hA := atR_eq hil
    have t1 := sv_t h i hil
    have t2 := h.lo i hil
    have t3 := h.wk1
    have t4 := h.n8
    have q1 : inB (atR l i) 0 200000 = true := inB_true.2 (by omega)
    have q2 : inB ((sv (atR l) l.length z wt wk i).2.2 + wk) (atR l i) 200000 = true := inB_true.2 (by omega)
    rw [List.drop_eq_getElem_cons hil, List.drop_eq_getElem_cons hal, hav]
    unfold lLongestDelay.delGo
    rw [← hA, q1]
    dsimp only
    rw [q2]
    exact ih
def due0 (A : Nat → Int) (n z : Nat) (wt : Int) (i : Nat) : Int := if i + z - 1 < n ∧ A (i + z - 1) < A i + wt then A (i + z - 1) else A i + wt
theorem due0_t {A : Nat → Int} {n z : Nat} {wt : Int} {i : Nat} (h1 : i + z - 1 < n) (h2 : A (i + z - 1) < A i + wt) : due0 A n z wt i = A (i + z - 1) := by unfold due0; rw [if_pos ⟨h1, h2⟩]
theorem due0_f {A : Nat → Int} {n z : Nat} {wt : Int} {i : Nat} (h : ¬ (i + z - 1 < n ∧ A (i + z - 1) < A i + wt)) : due0 A n z wt i = A i + wt := by unfold due0; rw [if_neg h]
theorem due_ok (hz : 1 ≤ z) (i : Nat) (free : Int) : beg A n z wt free i = if due0 A n z wt i < free then free else due0 A n z wt i := by
  have e : (if i + z ≤ n then min (A i + wt) (A (i + z - 1)) else A i + wt) = due0 A n z wt i := by
    unfold due0
    by_cases h1 : i + z ≤ n
    · rw [if_pos h1]
      by_cases h2 : A (i + z - 1) < A i + wt
      · rw [if_pos ⟨by omega, h2⟩]; omega
      · rw [if_neg (fun hh => h2 hh.2)]; omega
    · rw [if_neg h1, if_neg (fun hh => by have := hh.1; omega)]
  unfold beg
  rw [e]
  split <;> omega
end
end Go.Proofs.Ytlimabbeaimdgaa.lServed
