/- NewLab of the reference. -/
import Derived.Test.YtbdcjhhphkckcaaNewL2
import Derived.Test.YtbdcjhhphkckcaaStHB
namespace Go.Proofs.Ytbdcjhhphkckcaa.lNewLab
set_option linter.unusedSimpArgs false
set_option linter.unusedVariables false
open Go.RowKit

theorem alloc5 {w w5 : World} {A B C D E : Array Value} {ta tb tc td te : TypeId} {b : Nat} (ch : Chg (fun k => k = b) (((((w.alloc (.cells A ta)).alloc (.cells B tb)).alloc (.cells C tc)).alloc (.cells D td)).alloc (.cells E te)) w5) (hb : b < w.heap.size) :
    HB w5 w.heap.size A ta ∧ HB w5 (w.heap.size + 1) B tb ∧ HB w5 (w.heap.size + 1 + 1) C tc ∧ HB w5 (w.heap.size + 1 + 1 + 1) D td ∧ HB w5 (w.heap.size + 1 + 1 + 1 + 1) E te ∧ Chg (fun k => k = b) w w5 ∧ w.heap.size + 5 ≤ w5.heap.size := by
  obtain ⟨W1, h1⟩ : ∃ W, W = (w.alloc (.cells A ta)).alloc (.cells B tb) := ⟨_, rfl⟩
  obtain ⟨e1, s1, a1, a2⟩ := box2 h1
  rw [← h1] at ch
  obtain ⟨W2, h2⟩ : ∃ W, W = (W1.alloc (.cells C tc)).alloc (.cells D td) := ⟨_, rfl⟩
  obtain ⟨e2, s2, a3, a4⟩ := box2 h2
  rw [← h2] at ch
  have a5 := HB.new W2 E te
  have e3 := Ext.alloc W2 (.cells E te)
  rw [s1] at a3 a4 s2
  rw [s2] at a5
  have hs := ch.size
  simp at hs
  refine ⟨(HB.ext a1 (e2.trans e3)).chg ch (by omega), (HB.ext a2 (e2.trans e3)).chg ch (by omega), (HB.ext a3 e3).chg ch (by omega), (HB.ext a4 e3).chg ch (by omega), a5.chg ch (by omega), (Chg.of_ext (e1.trans (e2.trans e3))).trans ch, by omega⟩
theorem own_lay0 {w : World} {a b : Nat} (h1 : HB w a #[.float .f32 0] 22) (h2 : HB w b #[.float .f32 0] 22) : Own w shLayer [.int .i64 0, .int .i64 1, .int .i64 1, .slice (some ⟨a, 0, none⟩) 1 1, .slice (some ⟨b, 0, none⟩) 1 1] lay0 ([a] ++ [b]) := by
  have f : ∀ {c : Nat}, HB w c #[.float .f32 0] 22 → Own w (.sl .flt) [.slice (some ⟨c, 0, none⟩) 1 1] [0] [c] := fun {c} h => own_flts.2 ⟨some ⟨c, 0, none⟩, 1, [.float .f32 0], rfl, .inr ⟨c, _, _, rfl, h, rfl⟩, f32_one, by decide, by decide, rfl⟩
  exact own_lay (d := lay0) (f h1) (f h2)
theorem own_tra0 {w : World} {a b c d : Nat} (h1 : HB w a #[.float .f32 0] 22) (h2 : HB w b #[.float .f32 0] 22) (h3 : HB w c #[.int .i64 0, .int .i64 1, .int .i64 1, .slice (some ⟨a, 0, none⟩) 1 1, .slice (some ⟨b, 0, none⟩) 1 1] 98) (h4 : HB w d #[] 25) :
    Own w shTrainState [.slice (some ⟨c, 0, none⟩) 1 1, .slice (some ⟨d, 0, none⟩) 0 0, .int .i64 0, .int .i64 0, .float .f32 1065353216] tra0 (([c] ++ [[a] ++ [b]].flatten) ++ [d]) := by
  have o1 : Own w (.sl shLayer) [.slice (some ⟨c, 0, none⟩) 1 1] [lay0] ([c] ++ [[a] ++ [b]].flatten) := own_sl.2 ⟨some ⟨c, 0, none⟩, 1, [[.int .i64 0, .int .i64 1, .int .i64 1, .slice (some ⟨a, 0, none⟩) 1 1, .slice (some ⟨b, 0, none⟩) 1 1]], [[a] ++ [b]], rfl, .inr ⟨c, _, _, rfl, h3, rfl⟩, by decide, by decide, ⟨rfl, rfl, fun i cs bs x g1 g2 g3 => by
    cases i with
    | zero => simp at g1 g2 g3; subst g1; subst g2; subst g3; exact own_lay0 h1 h2
    | succ i => simp at g1⟩, rfl⟩
  have o2 : Own w (.sl (.sl .flt)) [.slice (some ⟨d, 0, none⟩) 0 0] [] [d] := own_sl.2 ⟨some ⟨d, 0, none⟩, 0, [], [], rfl, .inr ⟨d, _, _, rfl, h4, rfl⟩, by decide, by decide, ⟨rfl, rfl, fun i cs bs x g1 g2 g3 => by simp at g1⟩, rfl⟩
  have h := lNewTraining.own_tra o1 o2 0 0 1065353216
  rw [show cn .f32 1065353216 = 1065353216 from by decide +kernel] at h
  exact h
set_option maxRecDepth 100000 in
set_option maxHeartbeats 4000000 in
theorem l11New_any (w : World) : Calls Try.prog 81 #[] w (RetOwn w shLab lab0) := by
  obtain ⟨W0, hW0⟩ : ∃ W0, W0 = (w.alloc (.cells #[.int .i64 0, .float .f32 0, .float .f32 0, .float .f32 0, .float .f32 0, .int .i64 0, .int .i64 0, .slice none 0 0, .int .i64 0, .int .i64 0, .slice none 0 0, .slice none 0 0, .slice none 0 0, .int .i64 0, .int .i64 0, .float .f32 0] 50)).alloc (.cells #[.int .i64 0, .float .f32 1056964608, .float .f32 0, .float .f32 0, .float .f32 0, .int .i64 0, .int .i64 0, .slice none 0 0, .int .i64 0, .int .i64 0, .slice none 0 0, .slice none 0 0, .slice none 0 0, .int .i64 0, .int .i64 0, .float .f32 0] 50) := ⟨_, rfl⟩
  obtain ⟨E0, s0, b0, b1⟩ := box2 hW0
  have b0 : HB W0 w.heap.size #[.int .i64 0, .float .f32 0, .float .f32 0, .float .f32 0, .float .f32 0, .int .i64 0, .int .i64 0, .slice none 0 0, .int .i64 0, .int .i64 0, .slice none 0 0, .slice none 0 0, .slice none 0 0, .int .i64 0, .int .i64 0, .float .f32 0] 50 := b0
  have b1 : HB W0 (w.heap.size + 1) #[.int .i64 0, .float .f32 1056964608, .float .f32 0, .float .f32 0, .float .f32 0, .int .i64 0, .int .i64 0, .slice none 0 0, .int .i64 0, .int .i64 0, .slice none 0 0, .slice none 0 0, .slice none 0 0, .int .i64 0, .int .i64 0, .float .f32 0] 50 := b1
  go_enter Try.func81, Try.ntmps81
  go_wp2_with fail
  rw [← hW0]
  clear hW0
  refine (l02Filled_any _).mono ?_
  rintro e w1 h1
  obtain ⟨qa, ka, rfl, e1, bs1, p1, p2, p3, _⟩ := lPickRows.ret_isY h1
  clear h1
  have c1 := b1.ext e1
  have hb1 := b1.lt
  go_wp2_with ((with_reducible show wpList _ _ _ (Oper.mk _ (Op.store _ _ _) _ _ _ _ :: _) _ _); refine wl_stHBs (s := shTensor) (cs := [.int .i64 1, .int .i64 1, .slice qa 1 ka]) (j := 5) (Z' := #[.int .i64 0, .float .f32 1056964608, .float .f32 0, .float .f32 0, .float .f32 0, .int .i64 1, .int .i64 1, .slice qa 1 ka, .int .i64 0, .int .i64 0, .slice none 0 0, .slice none 0 0, .slice none 0 0, .int .i64 0, .int .i64 0, .float .f32 0]) rfl rfl rfl rfl c1 rfl (by simp [Value.oneCell']) (Nat.le_of_ble_eq_true rfl) rfl ?_; intro w2 c2 ch2)
  refine (l02Filled_any _).mono ?_
  rintro e w3 h3
  obtain ⟨qb, kb, rfl, e3, bs2, s1, s2, s3, _⟩ := lPickRows.ret_isY h3
  clear h3
  have c3 := c2.ext e3
  have q1' := e1.size
  have q2' := ch2.size
  have q3' := e3.size
  have hp1 := p1.lt
  have E2 : Ext w w2 := (E0.trans e1).chg ch2 (fun b hb => by omega)
  have b02 := (b0.ext e1).chg ch2 (by omega)
  have b03 := b02.ext e3
  have p12 := (p1.chg ch2 (fun b hb h => by have := p3 b hb; omega)).ext e3
  have E3 := E2.trans e3
  go_wp2_with (first | ((with_reducible show wpList _ _ _ (Oper.mk _ (Op.store _ _ _) _ _ _ _ :: _) _ _); refine wl_stHBs (s := shTensor) (cs := [.int .i64 1, .int .i64 1, .slice qb 1 kb]) (j := 8) (Z' := #[.int .i64 0, .float .f32 1056964608, .float .f32 0, .float .f32 0, .float .f32 0, .int .i64 1, .int .i64 1, .slice qa 1 ka, .int .i64 1, .int .i64 1, .slice qb 1 kb, .slice none 0 0, .slice none 0 0, .int .i64 0, .int .i64 0, .float .f32 0]) rfl rfl rfl rfl c3 rfl (by simp [Value.oneCell']) (Nat.le_of_ble_eq_true rfl) rfl ?_; intro w4 c4 ch4) | ((with_reducible show wpList _ _ _ (Oper.mk _ (Op.store _ _ _) _ _ _ _ :: _) _ _); refine wl_stHBs (s := shTrainState) (cs := [.slice (some ⟨w4.heap.size + 1 + 1 + 1, 0, none⟩) 1 1, .slice (some ⟨w4.heap.size + 1 + 1 + 1 + 1, 0, none⟩) 0 0, .int .i64 0, .int .i64 0, .float .f32 1065353216]) (j := 11) (Z' := #[.int .i64 0, .float .f32 1056964608, .float .f32 0, .float .f32 0, .float .f32 0, .int .i64 1, .int .i64 1, .slice qa 1 ka, .int .i64 1, .int .i64 1, .slice qb 1 kb, .slice (some ⟨w4.heap.size + 1 + 1 + 1, 0, none⟩) 1 1, .slice (some ⟨w4.heap.size + 1 + 1 + 1 + 1, 0, none⟩) 0 0, .int .i64 0, .int .i64 0, .float .f32 1065353216]) rfl rfl rfl rfl (c4.ext (((((Ext.alloc _ _).trans (Ext.alloc _ _)).trans (Ext.alloc _ _)).trans (Ext.alloc _ _)).trans (Ext.alloc _ _))) rfl (by simp [Value.oneCell']) (Nat.le_of_ble_eq_true rfl) rfl ?_; intro w5 c5 ch5; have q4' := ch4.size; obtain ⟨ha, hb, hc, hd, hee, ch6, hsz⟩ := alloc5 ch5 (by omega); have b05 := (b03.chg ch4 (by omega)).chg ch6 (by omega)) | ((with_reducible show wpList _ _ _ (Oper.mk _ (Op.load _ _) _ _ _ _ :: _) _ _); refine wl_ldA (s := shLab) (cs := [.int .i64 0, .float .f32 1056964608, .float .f32 0, .float .f32 0, .float .f32 0, .int .i64 1, .int .i64 1, .slice qa 1 ka, .int .i64 1, .int .i64 1, .slice qb 1 kb, .slice (some ⟨w4.heap.size + 1 + 1 + 1, 0, none⟩) 1 1, .slice (some ⟨w4.heap.size + 1 + 1 + 1 + 1, 0, none⟩) 0 0, .int .i64 0, .int .i64 0, .float .f32 1065353216]) rfl rfl rfl (cs_heap c5) rfl ?_; rw [show ofCs shLab [.int .i64 0, .float .f32 1056964608, .float .f32 0, .float .f32 0, .float .f32 0, .int .i64 1, .int .i64 1, .slice qa 1 ka, .int .i64 1, .int .i64 1, .slice qb 1 kb, .slice (some ⟨w4.heap.size + 1 + 1 + 1, 0, none⟩) 1 1, .slice (some ⟨w4.heap.size + 1 + 1 + 1 + 1, 0, none⟩) 0 0, .int .i64 0, .int .i64 0, .float .f32 1065353216] = .agg #[.int .i64 0, .float .f32 1056964608, .float .f32 0, .float .f32 0, .float .f32 0, .int .i64 1, .int .i64 1, .slice qa 1 ka, .int .i64 1, .int .i64 1, .slice qb 1 kb, .slice (some ⟨w4.heap.size + 1 + 1 + 1, 0, none⟩) 1 1, .slice (some ⟨w4.heap.size + 1 + 1 + 1 + 1, 0, none⟩) 0 0, .int .i64 0, .int .i64 0, .float .f32 1065353216] from rfl]) | ((with_reducible show wpList _ _ _ (Oper.mk _ (Op.store _ _ _) _ _ _ _ :: _) _ _); refine wl_stHBs (s := shLab) (cs := [.int .i64 0, .float .f32 1056964608, .float .f32 0, .float .f32 0, .float .f32 0, .int .i64 1, .int .i64 1, .slice qa 1 ka, .int .i64 1, .int .i64 1, .slice qb 1 kb, .slice (some ⟨w4.heap.size + 1 + 1 + 1, 0, none⟩) 1 1, .slice (some ⟨w4.heap.size + 1 + 1 + 1 + 1, 0, none⟩) 0 0, .int .i64 0, .int .i64 0, .float .f32 1065353216]) (j := 0) (Z' := #[.int .i64 0, .float .f32 1056964608, .float .f32 0, .float .f32 0, .float .f32 0, .int .i64 1, .int .i64 1, .slice qa 1 ka, .int .i64 1, .int .i64 1, .slice qb 1 kb, .slice (some ⟨w4.heap.size + 1 + 1 + 1, 0, none⟩) 1 1, .slice (some ⟨w4.heap.size + 1 + 1 + 1 + 1, 0, none⟩) 0 0, .int .i64 0, .int .i64 0, .float .f32 1065353216]) rfl rfl rfl rfl b05 rfl (by simp [Value.oneCell']) (Nat.le_of_ble_eq_true rfl) rfl ?_; intro w9 c9 ch9; have n0 := c9.cell 0 rfl; have n1 := c9.cell 1 rfl; have n2 := c9.cell 2 rfl; have n3 := c9.cell 3 rfl; have n4 := c9.cell 4 rfl; have n5 := c9.cell 5 rfl; have n6 := c9.cell 6 rfl; have n7 := c9.cell 7 rfl; have n8 := c9.cell 8 rfl; have n9 := c9.cell 9 rfl; have n10 := c9.cell 10 rfl; have n11 := c9.cell 11 rfl; have n12 := c9.cell 12 rfl; have n13 := c9.cell 13 rfl; have n14 := c9.cell 14 rfl; have n15 := c9.cell 15 rfl))
  refine bodyPost_ret (v := .agg #[.int .i64 0, .float .f32 1056964608, .float .f32 0, .float .f32 0, .float .f32 0, .int .i64 1, .int .i64 1, .slice qa 1 ka, .int .i64 1, .int .i64 1, .slice qb 1 kb, .slice (some ⟨w4.heap.size + 1 + 1 + 1, 0, none⟩) 1 1, .slice (some ⟨w4.heap.size + 1 + 1 + 1 + 1, 0, none⟩) 0 0, .int .i64 0, .int .i64 0, .float .f32 1065353216]) (by simp [results, Try.results81, go_sem, n0, n1, n2, n3, n4, n5, n6, n7, n8, n9, n10, n11, n12, n13, n14, n15]) rfl ?_
  clear n0 n1 n2 n3 n4 n5 n6 n7 n8 n9 n10 n11 n12 n13 n14 n15 c9 c5
  have h4 := ch4.size
  have h6 := ch6.size
  have h9 := ch9.size
  have e4 : Ext w w4 := E3.chg ch4 (fun b hb => by omega)
  have e5 : Ext w w5 := e4.chg ch6 (fun b hb => by omega)
  have e9 : Ext w w9 := e5.chg ch9 (fun b hb => by omega)
  have hs4 := e4.size
  have l1 : ∀ b ∈ bs1, w.heap.size + 2 ≤ b := fun b hb => by have := p3 b hb; omega
  have l2 : ∀ b ∈ bs2, w2.heap.size ≤ b := s3
  have lt1 : ∀ b ∈ bs1, b < w2.heap.size := fun b hb => by have := hp1 b hb; omega
  have lt2 := s1.lt
  have r1 := ((p12.chg ch4 (fun b hb h => by have := l1 b hb; omega)).chg ch6 (fun b hb h => by have := l1 b hb; omega)).chg ch9 (fun b hb h => by have := l1 b hb; omega)
  have r2 := ((s1.chg ch4 (fun b hb h => by have := l2 b hb; omega)).chg ch6 (fun b hb h => by have := l2 b hb; omega)).chg ch9 (fun b hb h => by have := l2 b hb; omega)
  have r3 := own_tra0 (ha.chg ch9 (by omega)) (hb.chg ch9 (by omega)) (hd.chg ch9 (by omega)) (hee.chg ch9 (by omega))
  have OL := own_lab r1 r2 r3 rfl rfl
  refine ⟨_, _, rfl, OL, ?_, fun b hb => ?_, e9⟩
  · rw [List.nodup_append, List.nodup_append]
    refine ⟨⟨p2, s2, fun x hx y hy he => ?_⟩, ?_, fun x hx y hy he => ?_⟩
    · subst he; have := lt1 x hx; have := l2 x hy; omega
    · simp; omega
    · subst he
      have hx4 : x < w4.heap.size := by
        rcases List.mem_append.1 hx with h | h
        · have := lt1 x h; omega
        · have := lt2 x h; omega
      simp at hy
      omega
  · rcases List.mem_append.1 hb with h | h
    · rcases List.mem_append.1 h with h | h
      · have := l1 b h; omega
      · have := l2 b h; omega
    · simp at h; omega
theorem lab0_cells {w : World} {cs : List Value} {bs : List Nat} (h : Own w shLab cs lab0 bs) : ∃ (g1 g2 g3 g4 : Nat) (p1 : Option Addr) (q1 : Nat) (p2 : Option Addr) (q2 : Nat) (pm : Option Addr) (nm km : Nat) (ps : Option Addr) (ns ks ub : Nat), cs = [.int .i64 0, .float .f32 g1, .float .f32 g2, .float .f32 g3, .float .f32 g4, .int .i64 1, .int .i64 1, .slice p1 1 q1, .int .i64 1, .int .i64 1, .slice p2 1 q2, .slice pm nm km, .slice ps ns ks, .int .i64 0, .int .i64 0, .float .f32 ub] := by
  obtain ⟨co, cr, bo, br, rfl, ho, ⟨ce, cr2, be, br2, rfl, he, ⟨ct, cr3, bt, br3, rfl, ht, ⟨rfl, rfl⟩, rfl⟩, rfl⟩, rfl⟩ := h
  obtain ⟨g1, g2, g3, g4, e1⟩ : ∃ g1 g2 g3 g4, co = [.int .i64 0, .float .f32 g1, .float .f32 g2, .float .f32 g3, .float .f32 g4] := lValidTraining.opt_cells ho.rep
  obtain ⟨p1, q1, u1, p2, q2, u2, e2, _⟩ := lPickRows.exa_vals he.rep
  have e2 : ce = [.int .i64 1, .int .i64 1, .slice p1 1 q1, .int .i64 1, .int .i64 1, .slice p2 1 q2] := e2
  obtain ⟨pm, nm, km, ps, ns, ks, ub, e3⟩ := tra0_cells ht
  subst e1 e2 e3
  exact ⟨g1, g2, g3, g4, p1, q1, p2, q2, pm, nm, km, ps, ns, ks, ub, rfl⟩
set_option maxRecDepth 100000 in
set_option maxHeartbeats 1000000 in
theorem spec_ok (w : World) : Calls Try.prog 25 #[] w (RetOwn w shLab lab0) := by
  have K := hid (fun W => l11New_any W)
  obtain ⟨W0, hW0⟩ : ∃ W0, W0 = w.alloc (.cells #[.int .i64 0, .float .f32 0, .float .f32 0, .float .f32 0, .float .f32 0, .int .i64 0, .int .i64 0, .slice none 0 0, .int .i64 0, .int .i64 0, .slice none 0 0, .slice none 0 0, .slice none 0 0, .int .i64 0, .int .i64 0, .float .f32 0] 50) := ⟨_, rfl⟩
  have E0 : Ext w W0 := by subst hW0; exact Ext.alloc _ _
  have s0 : W0.heap.size = w.heap.size + 1 := by simp [hW0]
  have b0 : HB W0 w.heap.size #[.int .i64 0, .float .f32 0, .float .f32 0, .float .f32 0, .float .f32 0, .int .i64 0, .int .i64 0, .slice none 0 0, .int .i64 0, .int .i64 0, .slice none 0 0, .slice none 0 0, .slice none 0 0, .int .i64 0, .int .i64 0, .float .f32 0] 50 := by rw [hW0]; exact heap_alloc_new w _
  go_enter Try.func25, Try.ntmps25
  go_wp2_with fail
  rw [← hW0]
  clear hW0
  refine (K.out _).mono ?_
  rintro e w1 ⟨cs, bs, rfl, ow, nd, lo, e1⟩
  obtain ⟨g1, g2, g3, g4, p1, q1, p2, q2, pm, nm, km, ps, ns, ks, ub, rfl⟩ := lab0_cells ow
  have c0 := b0.ext e1
  rw [show ofCs shLab [.int .i64 0, .float .f32 g1, .float .f32 g2, .float .f32 g3, .float .f32 g4, .int .i64 1, .int .i64 1, .slice p1 1 q1, .int .i64 1, .int .i64 1, .slice p2 1 q2, .slice pm nm km, .slice ps ns ks, .int .i64 0, .int .i64 0, .float .f32 ub] = .agg #[.int .i64 0, .float .f32 g1, .float .f32 g2, .float .f32 g3, .float .f32 g4, .int .i64 1, .int .i64 1, .slice p1 1 q1, .int .i64 1, .int .i64 1, .slice p2 1 q2, .slice pm nm km, .slice ps ns ks, .int .i64 0, .int .i64 0, .float .f32 ub] from rfl]
  go_wp2_with ((with_reducible show wpList _ _ _ (Oper.mk _ (Op.store _ _ _) _ _ _ _ :: _) _ _); refine wl_stHBs (s := shLab) (cs := [.int .i64 0, .float .f32 g1, .float .f32 g2, .float .f32 g3, .float .f32 g4, .int .i64 1, .int .i64 1, .slice p1 1 q1, .int .i64 1, .int .i64 1, .slice p2 1 q2, .slice pm nm km, .slice ps ns ks, .int .i64 0, .int .i64 0, .float .f32 ub]) (j := 0) (Z' := #[.int .i64 0, .float .f32 g1, .float .f32 g2, .float .f32 g3, .float .f32 g4, .int .i64 1, .int .i64 1, .slice p1 1 q1, .int .i64 1, .int .i64 1, .slice p2 1 q2, .slice pm nm km, .slice ps ns ks, .int .i64 0, .int .i64 0, .float .f32 ub]) rfl rfl rfl rfl c0 rfl (by simp [Value.oneCell']) (Nat.le_of_ble_eq_true rfl) rfl ?_; intro w9 c9 ch9; have n0 := c9.cell 0 rfl; have n1 := c9.cell 1 rfl; have n2 := c9.cell 2 rfl; have n3 := c9.cell 3 rfl; have n4 := c9.cell 4 rfl; have n5 := c9.cell 5 rfl; have n6 := c9.cell 6 rfl; have n7 := c9.cell 7 rfl; have n8 := c9.cell 8 rfl; have n9 := c9.cell 9 rfl; have n10 := c9.cell 10 rfl; have n11 := c9.cell 11 rfl; have n12 := c9.cell 12 rfl; have n13 := c9.cell 13 rfl; have n14 := c9.cell 14 rfl; have n15 := c9.cell 15 rfl)
  refine bodyPost_ret (v := .agg #[.int .i64 0, .float .f32 g1, .float .f32 g2, .float .f32 g3, .float .f32 g4, .int .i64 1, .int .i64 1, .slice p1 1 q1, .int .i64 1, .int .i64 1, .slice p2 1 q2, .slice pm nm km, .slice ps ns ks, .int .i64 0, .int .i64 0, .float .f32 ub]) (by simp [results, Try.results25, go_sem, n0, n1, n2, n3, n4, n5, n6, n7, n8, n9, n10, n11, n12, n13, n14, n15]) rfl ?_
  exact ⟨_, bs, rfl, ow.chg ch9 (fun b hb h => by have := lo b hb; omega), nd, fun b hb => by have := lo b hb; omega, (E0.trans e1).chg ch9 (fun b hb => by omega)⟩
end Go.Proofs.Ytbdcjhhphkckcaa.lNewLab
