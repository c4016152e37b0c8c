/- Layers that are drawn. -/
import Derived.Test.YtlimabbeaimdgaaDr4
import Derived.Test.YtlimabbeaimdgaaKc
namespace Go.Proofs.Ytlimabbeaimdgaa
set_option linter.unusedSimpArgs false
set_option linter.unusedVariables false
open Go.RowKit

theorem Chg.late {S S' : Nat → Prop} {w w1 w2 : World} (h : Chg S w w1) (k : Chg S' w1 w2) (hS : ∀ b, S' b → w.heap.size ≤ b ∨ S b) : Chg S w w2 :=
  ⟨k.os.trans h.os, k.tape.trans h.tape, k.output.trans h.output, Nat.le_trans h.size k.size, fun i hi hn => (k.block i (Nat.lt_of_lt_of_le hi h.size) (fun hb => by rcases hS i hb with h1 | h1; omega; exact hn h1)).trans (h.block i hi hn)⟩
theorem cnt_bd {k i o : Int} (hi : 1 ≤ i ∧ i ≤ 8) (ho : 1 ≤ o ∧ o ≤ 8) : ∃ nw nb : Nat, wCnt k i o = nw ∧ bCnt k i o = nb ∧ nw ≤ 64 ∧ nb ≤ 64 := by
  have hm := mul_bd hi ho
  refine ⟨(wCnt k i o).toNat, (bCnt k i o).toNat, ?_, ?_, ?_, ?_⟩
  all_goals (first | unfold wCnt | unfold bCnt); repeat (first | omega | split)
/-- A layer that was drawn. -/
def GotLay (sb K : Nat) (k i o : Int) (w : World) (e : Ending) (w' : World) : Prop :=
  ∃ (ws bs : List Nat) (pw pb : Option Addr) (cw cb : Nat), e = .returned (.agg #[.int .i64 k, .int .i64 i, .int .i64 o, .slice pw ws.length cw, .slice pb bs.length cb]) ∧ layB k i o ws.length bs.length = true ∧ (∀ x ∈ ws, x < 4294967296) ∧ (∀ x ∈ bs, x < 4294967296) ∧
    IsOwnY [49] w.heap.size shLayer w' [.int .i64 k, .int .i64 i, .int .i64 o, .slice pw ws.length cw, .slice pb bs.length cb] (k, i, o, ws, bs, ()) ∧ DrAt w' sb K ∧ Chg (fun b => b = sb) w w'
theorem gotFs_thing {sb K n : Nat} {w w' : World} {e : Ending} (h : GotFs sb K n w e w') : ∃ (xs : List Nat) (q : Option Addr) (c : Nat) (bs : List Nat), e = .returned (.slice q n c) ∧ xs.length = n ∧ (∀ x ∈ xs, x < 4294967296) ∧ Own w' (.sl .flt) [.slice q n c] xs bs ∧ bs.Nodup ∧ (∀ b ∈ bs, w.heap.size ≤ b) ∧ Tys w' [49] bs ∧ DrAt w' sb K ∧ Chg (fun b => b = sb) w w' := by
  obtain ⟨xs, hx, hb, ⟨q, c, vs, he, ho, hf⟩, hd, hc⟩ := h
  have H : Own w' (.sl .flt) [.slice q xs.length c] xs (blocksOf q) := own_flts.2 ⟨q, c, vs, rfl, ownRow_of ho, hf, (own_cap ho).1, (own_cap ho).2, rfl⟩
  have T := own_tys ho
  have hlo : ∀ b ∈ blocksOf q, w.heap.size ≤ b := by
    intro b hb
    cases q with
    | none => simp [blocksOf] at hb
    | some a => simp [blocksOf] at hb; subst hb; exact own_le ho _ rfl
  rw [hx] at he H
  exact ⟨xs, q, c, blocksOf q, he, hx, hb, H, by cases q <;> simp [blocksOf], hlo, T, hd, hc⟩
set_option maxRecDepth 100000 in
set_option maxHeartbeats 4000000 in
theorem l03DrawLayer_any (sb K : Nat) (k i o : Int) (w : World) (h : DrAt w sb K) (hK : K ≤ 1000000) (hk : 0 ≤ k ∧ k ≤ 5) (hi : 1 ≤ i ∧ i ≤ 8) (ho : 1 ≤ o ∧ o ≤ 8) :
    Calls Try.prog 152 #[.pointer (some ⟨sb, 0, none⟩), .int .i64 k, .int .i64 i, .int .i64 o] w (GotLay sb (K + 4000) k i (if k = 0 then o else i) w) := by
  have hlt0 := h.lt
  obtain ⟨W0, hW0⟩ : ∃ W0, W0 = (w.alloc (.cells #[.int .i64 0, .int .i64 0, .int .i64 0, .slice none 0 0, .slice none 0 0] 65)).alloc (.cells #[.int .i64 k, .int .i64 i, .int .i64 i, .slice none 0 0, .slice none 0 0] 65) := ⟨_, rfl⟩
  obtain ⟨E0, s0, b0, b1⟩ := box2 hW0
  have b0 : HB W0 w.heap.size #[.int .i64 0, .int .i64 0, .int .i64 0, .slice none 0 0, .slice none 0 0] 65 := b0
  have b1 : HB W0 (w.heap.size + 1) #[.int .i64 k, .int .i64 i, .int .i64 i, .slice none 0 0, .slice none 0 0] 65 := b1
  have H0 := h.ext E0
  clear h
  by_cases hk0 : k = 0
  case pos =>
    subst hk0
    rw [if_pos rfl]
    go_enter Try.func152, Try.ntmps152
    go_wp2_with (first | (rw [← hW0]; clear hW0; (with_reducible show wpList _ _ _ (Oper.mk _ (Op.store _ _ _) _ _ _ _ :: _) _ _); refine wl_stHB (j := 2) rfl rfl b1 rfl rfl rfl rfl ?_; intro W1 b1 ch1; have b0 := b0.chg ch1 (fun hh => by omega); have H0 := H0.chg ch1 (fun b hb => by omega); have E0 := E0.chg ch1 (fun b hb => by omega)) | fail)
    have b1 : HB W1 (w.heap.size + 1) #[.int .i64 0, .int .i64 i, .int .i64 o, .slice none 0 0, .slice none 0 0] 65 := b1
    refine (l03Counts_any (sp := none) (w.heap.size + 1) 0 0 i o W1 (b1.cell 0 rfl) (b1.cell 1 rfl) (b1.cell 2 rfl) hi ho).mono ?_
    rintro e w2 ⟨rfl, e2⟩
    obtain ⟨nw, nb, hnw, hnb, lw, lb⟩ := cnt_bd (k := 0) hi ho
    have HL : Hid (∀ a b : Nat, a = nw → b = nb → layB 0 i o a b = true) := hid (by
      rintro a b rfl rfl
      unfold layB
      simp only [Bool.and_eq_true, inB_true, decide_eq_true_eq, Bool.or_eq_true]
      exact ⟨⟨by omega, by omega⟩, hi, ho, by first | exact Or.inl rfl | exact Or.inr rfl | (left; simp), by omega, by omega⟩)
    rw [hnw, hnb]
    have S2 := H0.ext e2
    have B2 := b1.ext e2
    have Z2 := b0.ext e2
    have E2 := E0.trans e2
    clear hnw hnb b1 b0 H0 E0
    have hz := E2.size
    go_wp2_with fail
    refine (drFloats_any sb K nw w2 S2 (by omega) (by omega)).mono ?_
    rintro e w3 h3
    obtain ⟨ws, q, c, bsw, rfl, hwl, hwb, ow, ndw, low, tw, S3, c3⟩ := gotFs_thing h3
    have B3 := B2.chg c3 (fun hh => by omega)
    have Z3 := Z2.chg c3 (fun hh => by omega)
    have hlt2 := B2.lt
    clear h3 S2
    go_wp2_with (first | ((with_reducible show wpList _ _ _ (Oper.mk _ (Op.store _ _ _) _ _ _ _ :: _) _ _); refine wl_stHB (j := 3) rfl rfl B3 rfl rfl rfl rfl ?_; intro w4 B4 ch4; have B4 : HB w4 (w.heap.size + 1) #[.int .i64 0, .int .i64 i, .int .i64 o, .slice q nw c, .slice none 0 0] 65 := B4; have Z4 := Z3.chg ch4 (fun hh => by omega); have S4 := S3.chg ch4 (fun b hb => by omega)) | fail)
    refine (drFloats_any sb (K + 2 + nw * 30) nb w4 S4 (by omega) (by omega)).mono ?_
    rintro e w5 h5
    obtain ⟨bv, q5, c5, bsb, rfl, hbl, hbb, ob, ndb, lob, tb, S5, ch5⟩ := gotFs_thing h5
    have B5 := B4.chg ch5 (fun hh => by omega)
    have Z5 := Z4.chg ch5 (fun hh => by omega)
    clear h5 S4 S3
    have k1 := c3.size
    have k2 := ch4.size
    have k3 := ch5.size
    have ow4 := ow.chg ch4 (fun b hb hh => by have := low b hb; have hh : b = _ := hh; omega)
    have ow5 := ow4.chg ch5 (fun b hb hh => by have := low b hb; have hh : b = _ := hh; omega)
    have tw5 := (tw.chg ch4 (fun b hb hh => by have := low b hb; have hh : b = _ := hh; omega)).chg ch5 (fun b hb hh => by have := low b hb; have hh : b = _ := hh; omega)
    have ltw := ow.lt
    have C5 := (((Chg.of_ext (S := fun b => b = sb) E2).trans c3).late ch4 (fun b hb => by left; have hb : b = _ := hb; omega)).trans ch5
    go_wp2_with (first | ((with_reducible show wpList _ _ _ (Oper.mk _ (Op.store _ _ _) _ _ _ _ :: _) _ _); refine wl_stHB (j := 4) rfl rfl B5 rfl rfl rfl rfl ?_; intro w6 B6 ch6; have B6 : HB w6 (w.heap.size + 1) #[.int .i64 0, .int .i64 i, .int .i64 o, .slice q nw c, .slice q5 nb c5] 65 := B6; have Z6 := Z5.chg ch6 (fun hh => by omega); have r0 := B6.cell 0 rfl; have r1 := B6.cell 1 rfl; have r2 := B6.cell 2 rfl; have r3 := B6.cell 3 rfl; have r4 := B6.cell 4 rfl; have f0 := Z6.froz 0; have f1 := Z6.froz 1; have f2 := Z6.froz 2; have f3 := Z6.froz 3; have f4 := Z6.froz 4; have z0 := Z6.cell 0 rfl; have z1 := Z6.cell 1 rfl; have z2 := Z6.cell 2 rfl; have z3 := Z6.cell 3 rfl; have z4 := Z6.cell 4 rfl) | fail)
    have Z7 : HB (((((w6.setCell ⟨w.heap.size, 0, none⟩ (.int .i64 0)).setCell ⟨w.heap.size, 1, none⟩ (.int .i64 i)).setCell ⟨w.heap.size, 2, none⟩ (.int .i64 o)).setCell ⟨w.heap.size, 3, none⟩ (.slice q nw c)).setCell ⟨w.heap.size, 4, none⟩ (.slice q5 nb c5)) w.heap.size #[.int .i64 0, .int .i64 i, .int .i64 o, .slice q nw c, .slice q5 nb c5] 65 := ((((Z6.set 0 _).set 1 _).set 2 _).set 3 _).set 4 _
    have C7 : Chg (fun b => b = w.heap.size) w6 (((((w6.setCell ⟨w.heap.size, 0, none⟩ (.int .i64 0)).setCell ⟨w.heap.size, 1, none⟩ (.int .i64 i)).setCell ⟨w.heap.size, 2, none⟩ (.int .i64 o)).setCell ⟨w.heap.size, 3, none⟩ (.slice q nw c)).setCell ⟨w.heap.size, 4, none⟩ (.slice q5 nb c5)) := ((((chg_cell _ _ 0 _).trans (chg_cell _ _ 1 _)).trans (chg_cell _ _ 2 _)).trans (chg_cell _ _ 3 _)).trans (chg_cell _ _ 4 _)
    clear r0 r1 r2 r3 r4 f0 f1 f2 f3 f4 z0 z1 z2 z3 z4
    generalize (((((w6.setCell ⟨w.heap.size, 0, none⟩ (.int .i64 0)).setCell ⟨w.heap.size, 1, none⟩ (.int .i64 i)).setCell ⟨w.heap.size, 2, none⟩ (.int .i64 o)).setCell ⟨w.heap.size, 3, none⟩ (.slice q nw c)).setCell ⟨w.heap.size, 4, none⟩ (.slice q5 nb c5)) = W7 at *
    have y0 := Z7.cell 0 rfl; have y1 := Z7.cell 1 rfl; have y2 := Z7.cell 2 rfl; have y3 := Z7.cell 3 rfl; have y4 := Z7.cell 4 rfl
    refine bodyPost_ret (v := .agg #[.int .i64 0, .int .i64 i, .int .i64 o, .slice q nw c, .slice q5 nb c5]) (by simp [results, Try.results152, go_sem, y0, y1, y2, y3, y4]) rfl ?_
    have k6 := ch6.size
    have ow7 := (ow5.chg ch6 (fun b hb hh => by have := low b hb; have hh : b = _ := hh; omega)).chg C7 (fun b hb hh => by have := low b hb; have hh : b = _ := hh; omega)
    have ob7 := (ob.chg ch6 (fun b hb hh => by have := lob b hb; have hh : b = _ := hh; omega)).chg C7 (fun b hb hh => by have := lob b hb; have hh : b = _ := hh; omega)
    have tw7 := (tw5.chg ch6 (fun b hb hh => by have := low b hb; have hh : b = _ := hh; omega)).chg C7 (fun b hb hh => by have := low b hb; have hh : b = _ := hh; omega)
    have tb7 := (tb.chg ch6 (fun b hb hh => by have := lob b hb; have hh : b = _ := hh; omega)).chg C7 (fun b hb hh => by have := lob b hb; have hh : b = _ := hh; omega)
    subst hwl; subst hbl
    refine ⟨ws, bv, q, q5, c, c5, rfl, HL.out _ _ rfl rfl, hwb, hbb, ⟨bsw ++ bsb, own_lay (d := (0, i, o, ws, bv, ())) ow7 ob7, nodup_app ndw ndb (fun x hx => by have := ltw x hx; omega) (fun x hx => lob x hx), ?_, tw7.app tb7⟩, ?_, (C5.late ch6 (fun b hb => by left; have hb : b = _ := hb; omega)).late C7 (fun b hb => by left; have hb : b = _ := hb; omega)⟩
    · intro b hb
      rcases List.mem_append.1 hb with h | h
      · have := low b h; omega
      · have := lob b h; omega
    · exact ((S5.chg ch6 (fun b hb => by have hb : b = _ := hb; omega)).chg C7 (fun b hb => by have hb : b = _ := hb; omega)).mono (by omega)
  case neg =>
    rw [if_neg hk0]
    obtain ⟨W1, rfl⟩ : ∃ W1, W1 = W0 := ⟨_, rfl⟩
    go_enter Try.func152, Try.ntmps152
    go_wp2_with fail
    rw [← hW0]
    clear hW0
    refine (l03Counts_any (sp := none) (w.heap.size + 1) 0 k i i W1 (b1.cell 0 rfl) (b1.cell 1 rfl) (b1.cell 2 rfl) hi hi).mono ?_
    rintro e w2 ⟨rfl, e2⟩
    obtain ⟨nw, nb, hnw, hnb, lw, lb⟩ := cnt_bd (k := k) hi hi
    have HL : Hid (∀ a b : Nat, a = nw → b = nb → layB k i i a b = true) := hid (by
      rintro a b rfl rfl
      unfold layB
      simp only [Bool.and_eq_true, inB_true, decide_eq_true_eq, Bool.or_eq_true]
      exact ⟨⟨by omega, by omega⟩, hi, hi, by first | exact Or.inr rfl | (right; simp), by omega, by omega⟩)
    rw [hnw, hnb]
    have S2 := H0.ext e2
    have B2 := b1.ext e2
    have Z2 := b0.ext e2
    have E2 := E0.trans e2
    clear hnw hnb b1 b0 H0 E0
    have hz := E2.size
    go_wp2_with fail
    refine (drFloats_any sb K nw w2 S2 (by omega) (by omega)).mono ?_
    rintro e w3 h3
    obtain ⟨ws, q, c, bsw, rfl, hwl, hwb, ow, ndw, low, tw, S3, c3⟩ := gotFs_thing h3
    have B3 := B2.chg c3 (fun hh => by omega)
    have Z3 := Z2.chg c3 (fun hh => by omega)
    have hlt2 := B2.lt
    clear h3 S2
    go_wp2_with (first | ((with_reducible show wpList _ _ _ (Oper.mk _ (Op.store _ _ _) _ _ _ _ :: _) _ _); refine wl_stHB (j := 3) rfl rfl B3 rfl rfl rfl rfl ?_; intro w4 B4 ch4; have B4 : HB w4 (w.heap.size + 1) #[.int .i64 k, .int .i64 i, .int .i64 i, .slice q nw c, .slice none 0 0] 65 := B4; have Z4 := Z3.chg ch4 (fun hh => by omega); have S4 := S3.chg ch4 (fun b hb => by omega)) | fail)
    refine (drFloats_any sb (K + 2 + nw * 30) nb w4 S4 (by omega) (by omega)).mono ?_
    rintro e w5 h5
    obtain ⟨bv, q5, c5, bsb, rfl, hbl, hbb, ob, ndb, lob, tb, S5, ch5⟩ := gotFs_thing h5
    have B5 := B4.chg ch5 (fun hh => by omega)
    have Z5 := Z4.chg ch5 (fun hh => by omega)
    clear h5 S4 S3
    have k1 := c3.size
    have k2 := ch4.size
    have k3 := ch5.size
    have ow4 := ow.chg ch4 (fun b hb hh => by have := low b hb; have hh : b = _ := hh; omega)
    have ow5 := ow4.chg ch5 (fun b hb hh => by have := low b hb; have hh : b = _ := hh; omega)
    have tw5 := (tw.chg ch4 (fun b hb hh => by have := low b hb; have hh : b = _ := hh; omega)).chg ch5 (fun b hb hh => by have := low b hb; have hh : b = _ := hh; omega)
    have ltw := ow.lt
    have C5 := (((Chg.of_ext (S := fun b => b = sb) E2).trans c3).late ch4 (fun b hb => by left; have hb : b = _ := hb; omega)).trans ch5
    go_wp2_with (first | ((with_reducible show wpList _ _ _ (Oper.mk _ (Op.store _ _ _) _ _ _ _ :: _) _ _); refine wl_stHB (j := 4) rfl rfl B5 rfl rfl rfl rfl ?_; intro w6 B6 ch6; have B6 : HB w6 (w.heap.size + 1) #[.int .i64 k, .int .i64 i, .int .i64 i, .slice q nw c, .slice q5 nb c5] 65 := B6; have Z6 := Z5.chg ch6 (fun hh => by omega); have r0 := B6.cell 0 rfl; have r1 := B6.cell 1 rfl; have r2 := B6.cell 2 rfl; have r3 := B6.cell 3 rfl; have r4 := B6.cell 4 rfl; have f0 := Z6.froz 0; have f1 := Z6.froz 1; have f2 := Z6.froz 2; have f3 := Z6.froz 3; have f4 := Z6.froz 4; have z0 := Z6.cell 0 rfl; have z1 := Z6.cell 1 rfl; have z2 := Z6.cell 2 rfl; have z3 := Z6.cell 3 rfl; have z4 := Z6.cell 4 rfl) | fail)
    have Z7 : HB (((((w6.setCell ⟨w.heap.size, 0, none⟩ (.int .i64 k)).setCell ⟨w.heap.size, 1, none⟩ (.int .i64 i)).setCell ⟨w.heap.size, 2, none⟩ (.int .i64 i)).setCell ⟨w.heap.size, 3, none⟩ (.slice q nw c)).setCell ⟨w.heap.size, 4, none⟩ (.slice q5 nb c5)) w.heap.size #[.int .i64 k, .int .i64 i, .int .i64 i, .slice q nw c, .slice q5 nb c5] 65 := ((((Z6.set 0 _).set 1 _).set 2 _).set 3 _).set 4 _
    have C7 : Chg (fun b => b = w.heap.size) w6 (((((w6.setCell ⟨w.heap.size, 0, none⟩ (.int .i64 k)).setCell ⟨w.heap.size, 1, none⟩ (.int .i64 i)).setCell ⟨w.heap.size, 2, none⟩ (.int .i64 i)).setCell ⟨w.heap.size, 3, none⟩ (.slice q nw c)).setCell ⟨w.heap.size, 4, none⟩ (.slice q5 nb c5)) := ((((chg_cell _ _ 0 _).trans (chg_cell _ _ 1 _)).trans (chg_cell _ _ 2 _)).trans (chg_cell _ _ 3 _)).trans (chg_cell _ _ 4 _)
    clear r0 r1 r2 r3 r4 f0 f1 f2 f3 f4 z0 z1 z2 z3 z4
    generalize (((((w6.setCell ⟨w.heap.size, 0, none⟩ (.int .i64 k)).setCell ⟨w.heap.size, 1, none⟩ (.int .i64 i)).setCell ⟨w.heap.size, 2, none⟩ (.int .i64 i)).setCell ⟨w.heap.size, 3, none⟩ (.slice q nw c)).setCell ⟨w.heap.size, 4, none⟩ (.slice q5 nb c5)) = W7 at *
    have y0 := Z7.cell 0 rfl; have y1 := Z7.cell 1 rfl; have y2 := Z7.cell 2 rfl; have y3 := Z7.cell 3 rfl; have y4 := Z7.cell 4 rfl
    refine bodyPost_ret (v := .agg #[.int .i64 k, .int .i64 i, .int .i64 i, .slice q nw c, .slice q5 nb c5]) (by simp [results, Try.results152, go_sem, y0, y1, y2, y3, y4]) rfl ?_
    have k6 := ch6.size
    have ow7 := (ow5.chg ch6 (fun b hb hh => by have := low b hb; have hh : b = _ := hh; omega)).chg C7 (fun b hb hh => by have := low b hb; have hh : b = _ := hh; omega)
    have ob7 := (ob.chg ch6 (fun b hb hh => by have := lob b hb; have hh : b = _ := hh; omega)).chg C7 (fun b hb hh => by have := lob b hb; have hh : b = _ := hh; omega)
    have tw7 := (tw5.chg ch6 (fun b hb hh => by have := low b hb; have hh : b = _ := hh; omega)).chg C7 (fun b hb hh => by have := low b hb; have hh : b = _ := hh; omega)
    have tb7 := (tb.chg ch6 (fun b hb hh => by have := lob b hb; have hh : b = _ := hh; omega)).chg C7 (fun b hb hh => by have := lob b hb; have hh : b = _ := hh; omega)
    subst hwl; subst hbl
    refine ⟨ws, bv, q, q5, c, c5, rfl, HL.out _ _ rfl rfl, hwb, hbb, ⟨bsw ++ bsb, own_lay (d := (k, i, i, ws, bv, ())) ow7 ob7, nodup_app ndw ndb (fun x hx => by have := ltw x hx; omega) (fun x hx => lob x hx), ?_, tw7.app tb7⟩, ?_, (C5.late ch6 (fun b hb => by left; have hb : b = _ := hb; omega)).late C7 (fun b hb => by left; have hb : b = _ := hb; omega)⟩
    · intro b hb
      rcases List.mem_append.1 hb with h | h
      · have := low b h; omega
      · have := lob b h; omega
    · exact ((S5.chg ch6 (fun b hb => by have hb : b = _ := hb; omega)).chg C7 (fun b hb => by have hb : b = _ := hb; omega)).mono (by omega)
end Go.Proofs.Ytlimabbeaimdgaa
