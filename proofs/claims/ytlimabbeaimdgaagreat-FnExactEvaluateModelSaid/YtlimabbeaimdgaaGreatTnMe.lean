/- The reference's tape of a model, where all fits. -/
import Derived.Test.YtlimabbeaimdgaaGreatTnMd
set_option linter.unusedSimpArgs false
set_option linter.unusedVariables false
namespace Go.Proofs.YtlimabbeaimdgaaGreat
open Go.RowKit
structure MtR (w : World) (B : Nat) (v wv : Value) (ops : List shOp.T) (ws : List Int) (css : List (List Value)) (bss : List (List Nat)) : Prop where
 row : GrowOwn w B 79 shOp v ops css bss
 wr : w.ownsRow B 2 1 wv ws.length (ws.map (Value.int .i64))
 nw : ∀ b ∈ bss.flatten, wv.ownBlock ≠ some b
theorem MtR.ext {w w' : World} {B : Nat} {v wv : Value} {ops : List shOp.T} {ws : List Int} {css : List (List Value)} {bss : List (List Nat)} (h : MtR w B v wv ops ws css bss) (e : Ext w w') : MtR w' B v wv ops ws css bss := ⟨h.row.ext e, own_ext h.wr e, h.nw⟩
theorem MtR.row' {w : World} {B m : Nat} {v wv : Value} {ops : List shOp.T} {ws : List Int} {css : List (List Value)} {bss : List (List Nat)} (h : MtR w B v wv ops ws css bss) (hm : ops.length = m) : w.ownsRow B 79 shOp.sz v m css.flatten := by
 have := h.row.row
 rw [hm] at this
 exact this
theorem MtR.wr' {w : World} {B l : Nat} {v wv : Value} {ops : List shOp.T} {ws : List Int} {css : List (List Value)} {bss : List (List Nat)} (h : MtR w B v wv ops ws css bss) (hl : ws.length = l) : w.ownsRow B 2 1 wv l (ws.map (Value.int .i64)) := by
 have := h.wr
 rw [hl] at this
 exact this
theorem MtR.add {w0 w w9 : World} {B m c g k : Nat} {q : Option Addr} {wv : Value} {ops : List shOp.T} {ws : List Int} {css : List (List Value)} {bss : List (List Nat)} (M : MtR w0 B (.slice q m k) wv ops ws css bss) (hx : Ext w0 w) {cs : List Value} {d : shOp.T} {bs : List Nat} (ho : Own w shOp cs d bs) (hn : bs.Nodup) (hf : ∀ b ∈ bs, w0.heap.size ≤ b) (hB : B ≤ w0.heap.size) (hm : ops.length = m)
 (hr : w9.ownsRow B 79 shOp.sz (.slice (some ⟨g, 0, none⟩) (m + 1) c) (m + 1) (css.flatten ++ cs)) (hg : w.grownBy w9 (Value.slice q m k).ownBlock) (hw : (Value.slice q m k).ownBlock = some g ∨ g = w.heap.size + 1) : MtR w9 B (.slice (some ⟨g, 0, none⟩) (m + 1) c) wv (ops ++ [d]) ws (css ++ [cs]) (bss ++ [bs]) := by
 refine ⟨M.row.snoc hx ho hn hf hB hm hr hg hw, ownsRow_chg (own_ext M.wr hx) (Chg.of_grown hg) (fun x hx' h => own_ne2 M.wr M.row.row (by decide) x hx' h.symm), fun x hx' h => ?_⟩
 rw [List.flatten_append, List.flatten_cons, List.flatten_nil, List.append_nil, List.mem_append] at hx'
 rcases hx' with h2 | h2
 · exact M.nw x h2 h
 · have := own_lt M.wr x h; have := hf x h2; omega
theorem MtR.add2 {w0 w w9 : World} {B m c g k : Nat} {q : Option Addr} {wv : Value} {ops : List shOp.T} {ws : List Int} {css : List (List Value)} {bss : List (List Nat)} (M : MtR w0 B (.slice q m k) wv ops ws css bss) (hx : Ext w0 w) {cs : List Value} {d : shOp.T} {bs : List Nat} (ho : Own w shOp cs d bs) (hn : bs.Nodup) (hf : ∀ b ∈ bs, w0.heap.size ≤ b) (hB : B ≤ w0.heap.size) (hm : ops.length = m)
 (hr : w9.ownsRow B 79 shOp.sz (.slice (some ⟨g, 0, none⟩) (m + 1) c) (m + 1) (css.flatten ++ cs)) (hg : w.grownBy w9 (Value.slice q m k).ownBlock) (hw : (Value.slice q m k).ownBlock = some g ∨ w.heap.size ≤ g) : MtR w9 B (.slice (some ⟨g, 0, none⟩) (m + 1) c) wv (ops ++ [d]) ws (css ++ [cs]) (bss ++ [bs]) := by
 refine ⟨M.row.snoc2 hx ho hn hf hB hm hr hg hw, ownsRow_chg (own_ext M.wr hx) (Chg.of_grown hg) (fun x hx' h => own_ne2 M.wr M.row.row (by decide) x hx' h.symm), fun x hx' h => ?_⟩
 rw [List.flatten_append, List.flatten_cons, List.flatten_nil, List.append_nil, List.mem_append] at hx'
 rcases hx' with h2 | h2
 · exact M.nw x h2 h
 · have := own_lt M.wr x h; have := hf x h2; omega
theorem MtR.addW {w w9 : World} {B l c g k : Nat} {q : Option Addr} {v : Value} {ops : List shOp.T} {ws : List Int} {css : List (List Value)} {bss : List (List Nat)} {z : Int} (M : MtR w B v (.slice q l k) ops ws css bss) (hl : ws.length = l)
 (hr : w9.ownsRow B 2 1 (.slice (some ⟨g, 0, none⟩) (l + 1) c) (l + 1) (ws.map (Value.int .i64) ++ [.int .i64 z])) (hg : w.grownBy w9 (Value.slice q l k).ownBlock) (hw : (Value.slice q l k).ownBlock = some g ∨ g = w.heap.size + 1) : MtR w9 B v (.slice (some ⟨g, 0, none⟩) (l + 1) c) ops (ws ++ [z]) css bss := by
 have ch := Chg.of_grown hg
 have h1 := M.row
 refine ⟨⟨ownsRow_chg h1.row ch (fun x hx h => own_ne2 h1.row M.wr (by decide) x hx h.symm), h1.els.chg ch (fun x hx h => M.nw x hx h.symm), h1.nodup, h1.lo⟩, ?_, fun x hx h => ?_⟩
 · rw [List.length_append, List.map_append, hl]; exact hr
 · simp only [Value.ownBlock, Option.some.injEq] at h
   subst h
   rcases hw with h2 | h2
   · exact M.nw _ hx h2
   · have := h1.els.lt _ hx; omega
theorem len_snoc {A : Type} {l : List A} {d : A} {m : Nat} (h : l.length = m) : (l ++ [d]).length = m + 1 := by simp [h]
theorem mtr_dense {d2 d3 : Int} {W Bs : List Nat} {u : Unit} {ops : List shOp.T} {ws : List Int} {j m : Nat} (hm : ops.length = m) :
 mtStep (0, d2, d3, W, Bs, u) (ops, ws, j) = (((((ops ++ [(0, 0, 0, 0, (d3, d2, W, ()), ())]) ++ [(0, 0, 0, 0, (1, d3, Bs, ()), ())]) ++ [(7, (m : Int), 0, 0, t0, ())]) ++ [(6, (j : Int), (m : Int) + 2, 0, t0, ())]) ++ [(2, (m : Int) + 3, (m : Int) + 1, 0, t0, ())], (ws ++ [(m : Int)]) ++ [(m : Int) + 1], m + 4) := by
 subst hm
 simp [mtStep, mkOp]
theorem mtr_relu {d2 d3 : Int} {W Bs : List Nat} {u : Unit} {ops : List shOp.T} {ws : List Int} {j m : Nat} (hm : ops.length = m) :
 mtStep (1, d2, d3, W, Bs, u) (ops, ws, j) = (ops ++ [(8, (j : Int), 0, 0, t0, ())], ws, m) := by
 subst hm
 simp [mtStep, mkOp]
theorem mtr_scale {d2 d3 : Int} {W Bs : List Nat} {u : Unit} {ops : List shOp.T} {ws : List Int} {j m : Nat} (hm : ops.length = m) :
 mtStep (2, d2, d3, W, Bs, u) (ops, ws, j) = ((ops ++ [(0, 0, 0, 0, (1, d2, W, ()), ())]) ++ [(4, (j : Int), (m : Int), 0, t0, ())], ws ++ [(m : Int)], m + 1) := by
 subst hm
 simp [mtStep, mkOp]
theorem mtr_end {ops : List shOp.T} {ws : List Int} {j m z : Nat} (hm : ops.length = m) :
 mtEnd (ops, ws, j) z = ((((ops ++ [(5, 1, 0, negOne, t0, ())]) ++ [(1, (j : Int), (m : Int), 0, t0, ())]) ++ [(9, (m : Int) + 1, 0, 0, t0, ())]) ++ [(10, (m : Int) + 2, 0, 0, t0, ())]) ++ [(5, (m : Int) + 3, 0, z, t0, ())] := by
 subst hm
 simp [mtEnd, mkOp]
set_option maxRecDepth 100000 in
set_option maxHeartbeats 4000000 in
theorem l04Model_yes {sm sx sy : Option Nat} (bm om bx ox bz oz : Nat) (p q q2 : Option Addr) (n c nx cx ny cy : Nat) (R C D : Nat) (css : List (List Value)) (L : List shLayer.T) (xs ys : List Nat) (us vs : List Value) (z : Nat) (zb : Nat) (w : World) (m0 : w.cell? ⟨bm, om, sm⟩ = some (.slice p n c)) (x0 : w.cell? ⟨bx, ox, sx⟩ = some (.int .i64 (R : Int))) (x1 : w.cell? ⟨bx, ox + 1, none⟩ = some (.int .i64 (C : Int))) (x2 : w.cell? ⟨bx, ox + 2, none⟩ = some (.slice q nx cx)) (y0 : w.cell? ⟨bz, oz, sy⟩ = some (.int .i64 (R : Int))) (y1 : w.cell? ⟨bz, oz + 1, none⟩ = some (.int .i64 (D : Int))) (y2 : w.cell? ⟨bz, oz + 2, none⟩ = some (.slice q2 ny cy)) (hL : Lays w p n css L) (hnx : nx ≤ maxLen) (hny : ny ≤ maxLen) (hh : headB L R C nx R D ny = true) (hxl : xs.length = nx) (hyl : ys.length = ny) (hcx : nx ≤ cx) (hcy : ny ≤ cy) (hqx : Cs w q us) (hfx : F32s us xs) (hqy : Cs w q2 vs) (hfy : F32s vs ys) (hz : cn .f32 zb = z) :
 Calls Tryz.prog 78 #[.pointer (some ⟨bm, om, sm⟩), .pointer (some ⟨bx, ox, sx⟩), .pointer (some ⟨bz, oz, sy⟩), .float .f32 zb] w fun e w' => ((tapeB L = false ∧ ∃ u v, e = .returned (.tuple #[u, v, .bool false])) ∨ (tapeB L = true ∧ ∃ v wv css bss, e = .returned (.tuple #[v, wv, .bool true]) ∧ MtR w' w.heap.size v wv (mtape L ((R : Int), (C : Int), xs, ()) ((R : Int), (D : Int), ys, ()) z) (mweights L ((R : Int), (C : Int), xs, ()) ((R : Int), (D : Int), ys, ())) css bss)) ∧ Ext w w' := by
 have hLl := hL.len
 have A1 := hid (fun W (h : Ext w W) => l03Is_any (sp := sm) bm om p n c L css W (h.cell m0) hLl hL.le (hL.cs.ext h) (hL.all.imp fun _ _ => Rep.ext h) hL.size hL.cnt)
 have A2 := hid (fun W (h : Ext w W) => l02Is_any (sp := sx) bx ox R C q nx cx W (h.cell x0) (h.cell x1) (h.cell x2) hnx)
 have A3 := hid (fun W (h : Ext w W) => l02Is_any (sp := sy) bz oz R D q2 ny cy W (h.cell y0) (h.cell y1) (h.cell y2) hny)
 have hpos : modB L = true → 1 ≤ n := fun h => by rw [← hLl]; exact (modOk h).pos
 unfold headB at hh
 have hle := hL.le
 unfold maxLen at hle
 have HM := hid (show ModOk L by refine modOk ?_; simp only [Bool.and_eq_true] at hh; exact hh.1)
 simp only [Bool.and_eq_true, decide_eq_true_eq] at hh
 obtain ⟨g1, g2, g3, g4, g5, g6⟩ := hh
 have h1n := hpos g1
 clear hpos g4
 have hb2 := g2; have hb3 := g3
 unfold tenB at hb2 hb3
 simp only [Bool.and_eq_true, decide_eq_true_eq, inB_true] at hb2 hb3
 obtain ⟨⟨⟨a1, a2⟩, a3, a4⟩, a5⟩ := hb2
 obtain ⟨⟨_, b1, b2⟩, b5⟩ := hb3
 have hR : R ≤ 16 := by omega
 have hC : C ≤ 16 := by omega
 have hD : D ≤ 16 := by omega
 have hnxE : nx = R * C := by exact_mod_cast a5
 have hnyE : ny = R * D := by exact_mod_cast b5
 have hnx2 : nx ≤ 256 := by rw [hnxE]; exact Nat.mul_le_mul hR hC
 have hny2 : ny ≤ 256 := by rw [hnyE]; exact Nat.mul_le_mul hR hD
 clear a1 a2 a3 a4 a5 b1 b2 b5
 have KX : Hid (∀ W, Ext w W → Calls Tryz.prog 52 #[.pointer (some ⟨bx, ox, sx⟩), .int .i64 0, .int .i64 (R : Int)] W (RetTen W R C xs)) := hid (fun W h => by
  have h := l02Slice_any (sp := sx) bx ox C 0 R nx cx q us xs W (h.cell x1) (h.cell x2) hC (by omega) (by rw [hnxE]; simp) hcx hxl (hqx.ext h) hfx
  have e : (xs.take ((0 + R) * C)).drop (0 * C) = xs := by rw [Nat.zero_mul, List.drop_zero, Nat.zero_add, ← hnxE, ← hxl, List.take_length]
  rw [e] at h
  exact h)
 have KY : Hid (∀ W, Ext w W → Calls Tryz.prog 52 #[.pointer (some ⟨bz, oz, sy⟩), .int .i64 0, .int .i64 (R : Int)] W (RetTen W R D ys)) := hid (fun W h => by
  have h := l02Slice_any (sp := sy) bz oz D 0 R ny cy q2 vs ys W (h.cell y1) (h.cell y2) hD (by omega) (by rw [hnyE]; simp) hcy hyl (hqy.ext h) hfy
  have e : (ys.take ((0 + R) * D)).drop (0 * D) = ys := by rw [Nat.zero_mul, List.drop_zero, Nat.zero_add, ← hnyE, ← hyl, List.take_length]
  rw [e] at h
  exact h)
 obtain ⟨ci, ki, kj, _, _⟩ := hL.at (i := 0) (by omega)
 obtain ⟨co, ko, _, kp, k4⟩ := hL.at (i := n - 1) (by omega)
 rw [outL_eq hL.len] at kp
 have hwn : Hid (IntKind.i64.wrap ((n : Int) - 1) = ((n - 1 : Nat) : Int)) := hid ((wrap_in _ (by omega) (by omega)).trans (by omega))
 have KI := hid ki; have KJ := hid kj; have KO := hid ko; have KP := hid kp
 clear ki kj ko kp
 rw [← g5] at KJ
 rw [← g6] at KP
 rw [g1] at A1; rw [g2] at A2; rw [g3] at A3
 have HLl := hid hLl
 have HXl := hid hxl; have HYl := hid hyl
 have HLL := hid hL
 have HZ := hid hz
 clear g1 g2 g3 g5 g6 hLl hxl hyl hqx hfx hqy hfy hL hnxE hnyE hz
 obtain ⟨F, hF⟩ : ∃ F : Option Tmp → World → Value → Prop, F = fun d _ u => match d with | some 21 => u = .bool true | some 25 => u = .bool true | _ => u = .bool true := ⟨_, rfl⟩
 have HF := hid hF
 clear hF
 go_enter Tryz.func78, Tryz.ntmps78
 go_wp2
 obtain ⟨W0, hW0⟩ : ∃ W0, W0 = (w.alloc (.cells #[] 79)).alloc (.cells #[] 2) := ⟨_, rfl⟩
 rw [← hW0]
 have E0 : Ext w W0 := by rw [hW0]; exact (Ext.alloc _ _).trans (Ext.alloc _ _)
 have M0 : MtR W0 w.heap.size (.slice (some ⟨w.heap.size, 0, none⟩) 0 0) (.slice (some ⟨w.heap.size + 1, 0, none⟩) 0 0) [] [] [] [] := by
  refine ⟨GrowOwn.empty ?_, ?_, fun b hb => by simp at hb⟩
  · rw [hW0]
    exact own_ext (World.ownsRow_made w #[] 0 (Nat.le_refl _) (by decide) rfl) (Ext.alloc _ _)
  · have h := World.ownsRow_made (e := 2) (w.alloc (.cells #[] 79)) #[] 0 (base := w.heap.size) (size := 1) (by simp) (by decide) rfl
    have hs : (w.alloc (.cells #[] 79)).heap.size = w.heap.size + 1 := by simp
    rw [hs] at h
    rw [hW0]
    exact h
 clear hW0
 have eD := Ext.drew W0
 have d0 := (E0.trans eD).cell m0
 have d1 := (E0.trans eD).cell x0; have d2 := (E0.trans eD).cell x1
 have d4 := (E0.trans eD).cell y0; have d5 := (E0.trans eD).cell y1
 have l1 := HLL.out.cs.ext (E0.trans eD); have l3 := HLL.out.size; have l5 := hid HLL.out.cnt
 refine wp_region_xall (F := F) (by kernel_rfl) (by kernel_rfl) (by kernel_rfl) ?_
 intro wf hwf
 repeat (first
  | (refine x_skip rfl ?_; simp only [Act.put, ev_tmp, pu1, pu2, pu3, pu4, pu5])
  | (refine x_mv rfl rfl rfl ?_; simp only [Act.put, ev_tmp, pu1, pu2, pu3, pu4, pu5])
  | (refine x_as rfl rfl rfl ?_; simp only [Act.put, ev_tmp, pu1, pu2, pu3, pu4, pu5])
  | ((with_reducible show wpX _ _ _ _ _ _ (Oper.mk _ (Op.call _) _ _ _ _ :: _) _); refine x_callf (f := 90) (args := #[.pointer (some ⟨bm, om, sm⟩)]) rfl rfl Tryz.func90 rfl (by kernel_rfl) ?_ ?_ ?_; (focus (simp [Act.eval]; done)); (focus (intro w1 hw1; exact (by rw [HF.out]; exact calls_retB (A1.out w1 ((E0.trans eD).trans hw1))))); rintro u w3 e3 e4 hu; simp only [HF.out] at hu; subst hu; simp only [Act.put, ev_tmp, pu1, pu2, pu3, pu4, pu5])
  | ((with_reducible show wpX _ _ _ _ _ _ (Oper.mk _ (Op.call _) _ _ _ _ :: _) _); refine x_callf (f := 49) (args := #[.pointer (some ⟨bx, ox, sx⟩)]) rfl rfl Tryz.func49 rfl (by kernel_rfl) ?_ ?_ ?_; (focus (simp [Act.eval]; done)); (focus (intro w1 hw1; exact (by rw [HF.out]; exact calls_retB (A2.out w1 ((E0.trans eD).trans hw1))))); rintro u w3 e3 e4 hu; simp only [HF.out] at hu; subst hu; simp only [Act.put, ev_tmp, pu1, pu2, pu3, pu4, pu5])
  | ((with_reducible show wpX _ _ _ _ _ _ (Oper.mk _ (Op.call _) _ _ _ _ :: _) _); refine x_callf (f := 49) (args := #[.pointer (some ⟨bz, oz, sy⟩)]) rfl rfl Tryz.func49 rfl (by kernel_rfl) ?_ ?_ ?_; (focus (simp [Act.eval]; done)); (focus (intro w1 hw1; exact (by rw [HF.out]; exact calls_retB (A3.out w1 ((E0.trans eD).trans hw1))))); rintro u w3 e3 e4 hu; simp only [HF.out] at hu; subst hu; simp only [Act.put, ev_tmp, pu1, pu2, pu3, pu4, pu5])
  | ((with_reducible show wpX _ _ _ _ _ _ (Oper.mk _ (Op.indexAddr _ _ _) _ _ _ _ :: Oper.mk _ (Op.fieldAddr _ _ _) _ _ _ _ :: Oper.mk _ (Op.load _ _) _ _ _ _ :: _) _); refine x_ldField (f := 1) (off := 1) (j := 0) rfl rfl (fun _ => rfl) rfl (fun _ _ => rfl) rfl (fun _ => rfl) (fun _ _ => rfl) fo_implLayer_1 rfl rfl rfl l1 l3 l5.out (by omega) k4 KI.out KJ.out ?_; simp only [Act.put, ev_tmp, pu1, pu2, pu3, pu4, pu5])
  | ((with_reducible show wpX _ _ _ _ _ _ (Oper.mk _ (Op.indexAddr _ _ _) _ _ _ _ :: Oper.mk _ (Op.fieldAddr _ _ _) _ _ _ _ :: Oper.mk _ (Op.load _ _) _ _ _ _ :: _) _); refine x_ldField (f := 2) (off := 2) (j := n - 1) rfl rfl (fun _ => rfl) rfl (fun _ _ => rfl) rfl (fun _ => rfl) (fun _ _ => rfl) fo_implLayer_2 rfl rfl (by first | omega | exact hwn.out) l1 l3 l5.out (by omega) k4 KO.out KP.out ?_; simp only [Act.put, ev_tmp, pu1, pu2, pu3, pu4, pu5])
  | (refine x_run rfl fun K hK w1 hw1 => ?_; have k0 := hw1.cell (d0); have k1 := hw1.cell (d1); have k2 := hw1.cell (d2); have k3 := hw1.cell (d4); have k4 := hw1.cell (d5); go_simp; refine hK _ ?_; clear hK K k0 k1 k2 k3 k4 hw1 w1))
 refine x_nil ?_
 have E1 := (E0.trans eD).trans hwf
 have M1 := M0.ext (eD.trans hwf)
 have hs1 := E1.size
 have z0 := E1.cell x0
 have z4 := E1.cell y0
 clear d0 d1 d2 d4 d5 l1 hwf eD M0
 go_wp2_with fail
 refine (KX.out wf E1).mono ?_
 rintro e w2 ⟨q2a, k2a, v2a, rfl, own2, f2, e2⟩
 rw [HXl.out] at own2 ⊢
 obtain ⟨o1, o2, o3⟩ := own_mk (r := (R : Int)) (c := (C : Int)) HXl.out own2 f2
 have row1 := (M1.ext e2).row' rfl
 have hs2 := e2.size
 have HO1 := hid o1; have HO2 := hid o2; have HO3 := hid o3
 clear o1 o2 o3 own2 z0
 have w4 := (E1.trans e2).cell y0
 go_wp2_with ((with_reducible show wpList _ _ _ (Oper.mk _ (Op.buildSlice _ _ _) _ _ _ _ :: Oper.mk _ (Op.call _) _ _ _ _ :: _) _ _); refine wl_app1b (n := 0) (u := .agg #[.int .i64 0, .int .i64 0, .int .i64 0, .float .f32 0, .int .i64 R, .int .i64 C, .slice q2a nx k2a]) rfl rfl rfl rfl rfl rfl rfl (fun _ => rfl) (fun _ => rfl) row1 (by unfold maxLen; omega) (by omega) (by omega) ?_; intro g3 c3 w3 own3 gr3 hg3; have M3 : MtR w3 w.heap.size (.slice (some ⟨g3, 0, none⟩) 1 c3) _ _ _ _ _ := M1.add e2 (own_op cn0 HO1.out) HO2.out HO3.out hs1 rfl own3 gr3 hg3; have E3 := (E1.trans e2).grown gr3 (fun k hk => by have := own_le row1 k hk; omega); have z0 := E3.cell y0)
 refine (KY.out w3 E3).mono ?_
 rintro e w5 ⟨q5a, k5a, v5a, rfl, own5, f5, e5⟩
 rw [HYl.out] at own5 ⊢
 obtain ⟨o1, o2, o3⟩ := own_mk (r := (R : Int)) (c := (D : Int)) HYl.out own5 f5
 have row3 := (M3.ext e5).row' rfl
 have hs3 := E3.size
 have hs5 := e5.size
 have HO4 := hid o1; have HO5 := hid o2; have HO6 := hid o3
 clear o1 o2 o3 own5
 go_wp2_with ((with_reducible show wpList _ _ _ (Oper.mk _ (Op.buildSlice _ _ _) _ _ _ _ :: Oper.mk _ (Op.call _) _ _ _ _ :: _) _ _); refine wl_app1b (n := 1) (u := .agg #[.int .i64 0, .int .i64 0, .int .i64 0, .float .f32 0, .int .i64 R, .int .i64 D, .slice q5a ny k5a]) rfl rfl rfl rfl rfl rfl rfl (fun _ => rfl) (fun _ => rfl) row3 (by unfold maxLen; omega) (by omega) (by omega) ?_; intro g6 c6 w6 own6 gr6 hg6; have M6 : MtR w6 w.heap.size (.slice (some ⟨g6, 0, none⟩) 2 c6) _ _ _ _ _ := M3.add e5 (own_op cn0 HO4.out) HO5.out HO6.out hs3 rfl own6 gr6 hg6; have E6 := (E3.trans e5).grown gr6 (fun k hk => by have := own_le row3 k hk; omega))
 have hs6 := E6.size
 clear M1 M3 row1 row3 z0 z4 w4
 have MM : MtR w6 w.heap.size (.slice (some ⟨g6, 0, none⟩) 2 c6) (.slice (some ⟨w.heap.size + 1, 0, none⟩) 0 0) (mtTo L ((R : Int), (C : Int), xs, ()) ((R : Int), (D : Int), ys, ()) 0).1 (mtTo L ((R : Int), (C : Int), xs, ()) ((R : Int), (D : Int), ys, ()) 0).2.1 _ _ := M6
 clear M6
 go_loopw [11, 12, 13, 14] (fun v wv pv iv wr => ∃ (i : Nat) (css1 : List (List Value)) (bss1 : List (List Nat)), i ≤ n ∧ iv = .int .i64 (i : Int) ∧ pv = .int .i64 ((mtTo L ((R : Int), (C : Int), xs, ()) ((R : Int), (D : Int), ys, ()) i).2.2 : Nat) ∧ Hid (tapeB (L.take i) = true) ∧ MtR wr w.heap.size v wv (mtTo L ((R : Int), (C : Int), xs, ()) ((R : Int), (D : Int), ys, ()) i).1 (mtTo L ((R : Int), (C : Int), xs, ()) ((R : Int), (D : Int), ys, ()) i).2.1 css1 bss1 ∧ Ext w wr) (fun _ _ _ iv _ => n - (intOf iv).toNat)
 case atStart => exact ⟨0, _, _, by omega, rfl, rfl, rfl, MM, E6⟩
 case round =>
  clear MM E6 hs6
  obtain ⟨i, cs, bs, hi, rfl, rfl, HT, M, he⟩ := hrel
  have hlen := mtTo_len L ((R : Int), (C : Int), xs, ()) ((R : Int), (D : Int), ys, ()) i
  have hwl := mtTo_wlen L ((R : Int), (C : Int), xs, ()) ((R : Int), (D : Int), ys, ()) i
  have hn6 : n ≤ 6 := by have := HM.out.few; have := HLl.out; omega
  have hse := he.size
  have m0' := he.cell m0
  by_cases hlt : i < n
  · have hil : i < L.length := by rw [HLl.out]; exact hlt
    obtain ⟨ci, hci, ri⟩ := HLL.out.all.get i L[i] (by simp)
    have l1 := HLL.out.cs; have l3 := HLL.out.size; have l5 := hid HLL.out.cnt
    have hs1 : p.isSome = true := l1.some_of l3 (by decide) (show 0 < css.length by rw [l5.out]; omega)
    have hp := l1.ext he
    obtain ⟨hw1, hw2⟩ := (small_of HM.out).2 L[i] (by simp)
    have HLay := hid (HM.out.lay i hil)
    obtain ⟨pw, cw, pb, cb, uw, ub, rfl, ⟨x1, x2, x3⟩, ⟨y1, y2, y3⟩⟩ := lay_full ri
    have HD := hid (show L[i]? = some L[i] by simp)
    have HMT := hid (show mtTo L ((R : Int), (C : Int), xs, ()) ((R : Int), (D : Int), ys, ()) (i + 1) = mtStep L[i] (mtTo L ((R : Int), (C : Int), xs, ()) ((R : Int), (D : Int), ys, ()) i) by simp [mtTo, List.getD_eq_getElem?_getD, hil])
    generalize mtTo L ((R : Int), (C : Int), xs, ()) ((R : Int), (D : Int), ys, ()) i = s at *
    obtain ⟨ops, ws, j⟩ := s
    generalize L[i] = d at *
    obtain ⟨d1, d2, d3, W, Bs, du⟩ := d
    dsimp only at hci HD HMT hlen hwl M hw1 hw2 HLay x1 x2 x3 y1 y2 y3
    obtain ⟨m, hm⟩ : ∃ m, ops.length = m := ⟨_, rfl⟩
    obtain ⟨lw, hlw⟩ : ∃ lw, ws.length = lw := ⟨_, rfl⟩
    rw [hm] at hlen
    rw [hlw] at hwl
    have hm32 : m ≤ 32 := by omega
    have hlw12 : lw ≤ 12 := by omega
    have hjm : j < m := hlen.2.2
    have hrow := M.row' hm
    have hwr := M.wr' hlw
    obtain ⟨qv, kv, rfl⟩ := own_slice hrow
    obtain ⟨qw, kw, rfl⟩ := own_slice hwr
    have Hm := hid hm; have Hlw := hid hlw
    have HX1 := hid x1; have HX2 := hid x2; have HX3 := hid x3; have HY1 := hid y1; have HY2 := hid y2; have HY3 := hid y3
    generalize hlw0 : W.length = lW at *
    generalize hlb0 : Bs.length = lB at *
    have HlW := hid hlw0
    have HlB := hid hlb0
    clear hlw0 hlb0 x1 x2 x3 y1 y2 y3 ri hm hlen hlw hwl
    have b6 := HB.new wr #[.int .i64 d1, .int .i64 d2, .int .i64 d3, .slice pw lW cw, .slice pb lB cb] 100
    obtain ⟨w6, hW6⟩ : ∃ w6, w6 = wr.alloc (.cells #[.int .i64 d1, .int .i64 d2, .int .i64 d3, .slice pw lW cw, .slice pb lB cb] 100) := ⟨_, rfl⟩
    rw [← hW6] at b6
    have e6 : Ext wr w6 := by rw [hW6]; exact Ext.alloc _ _
    have hs6 := e6.size
    have M6 := M.ext e6
    have E6 := he.trans e6
    by_cases h0 : d1 = 0
    · subst h0
      go_wp2_with (first | ((with_reducible show wpList _ _ _ (Oper.mk _ (Op.indexAddr _ _ _) _ _ _ _ :: Oper.mk _ (Op.load _ _) _ _ _ _ :: _) _ _); refine wl_idxloadE (s := shLayer) (j := i) rfl rfl rfl rfl (fun _ => rfl) rfl rfl rfl hp l3 l5.out hlt hs1 hci ?_; simp only [ofCs, Sh.agg, if_true]) | fail)
      rw [← hW6]
      have L6 := Hm
      have hb6 := E6.size
      have row6 := M6.row' Hm.out
      have eD7 := Ext.drew w6
      have k1 := (b6.ext eD7).cell 1 rfl; have k2 := (b6.ext eD7).cell 2 rfl; have k3 := (b6.ext eD7).cell 3 rfl; have k4 := (b6.ext eD7).cell 4 rfl
      have K7 := hid (fun V (h : Ext w6 V) => l02Own_any pw lW cw uw W V HlW.out (by omega) HX3.out (HX1.out.ext (E6.trans h)) HX2.out)
      obtain ⟨F, hF⟩ : ∃ F : Option Tmp → World → Value → Prop, F = fun _ w' u => IsFl w6.heap.size W w' u := ⟨_, rfl⟩
      have HF := hid hF
      clear hF
      refine wp_region_xt 11 (F := F) (by kernel_rfl) (by kernel_rfl) (by kernel_rfl) (by kernel_rfl) (by kernel_rfl) ?_
      intro wf hwf
      simp only [List.take_succ_cons, List.take_zero, List.drop_succ_cons, List.drop_zero]
      repeat (first
       | (refine x_skip rfl ?_; simp only [Act.put, ev_tmp, pu1, pu2, pu3, pu4, pu5])
       | (refine x_mv rfl rfl rfl ?_; simp only [Act.put, ev_tmp, pu1, pu2, pu3, pu4, pu5])
       | (refine x_as rfl rfl rfl ?_; simp only [Act.put, ev_tmp, pu1, pu2, pu3, pu4, pu5])
       | ((with_reducible show wpX _ _ _ _ _ _ (Oper.mk _ (Op.call _) _ _ _ _ :: _) _); refine x_callf (f := 77) (args := #[.slice pw lW cw]) rfl rfl Tryz.func77 rfl (by kernel_rfl) ?_ ?_ ?_; (focus (simp [Act.eval]; done)); (focus (intro w1 hw1; exact (by rw [HF.out]; exact calls_fl (eD7.trans hw1) (K7.out w1 (eD7.trans hw1))))); rintro u w3 e3 e4 hu; simp only [HF.out] at hu; obtain ⟨p7, c7, vs7, rfl, ho5, hf5⟩ := hu; rw [HlW.out] at ho5; (try rw [HlW.out]); have HO7 := hid (own_ext ho5 e4); have HV7 := hid hf5; clear ho5 hf5; simp only [Act.put, ev_tmp, pu1, pu2, pu3, pu4, pu5])
       | (refine x_build1 (u := .agg #[.int .i64 0, .int .i64 0, .int .i64 0, .float .f32 0, .int .i64 (d3), .int .i64 (d2), .slice p7 lW c7]) rfl rfl rfl rfl ?_; intro gb hgb hgb2 hcb; simp only [Act.put, ev_tmp, pu1, pu2, pu3, pu4, pu5])
       | (refine x_run rfl fun K hK w1 hw1 => ?_; have k0 := hw1.cell (k1); have k1 := hw1.cell (k2); have k2 := hw1.cell (k3); go_simp; refine hK _ ?_; clear hK K k0 k1 k2 hw1 w1))
      refine x_nil ?_
      have X7 := eD7.trans hwf
      have row7x := (M6.ext X7).row' L6.out
      have hx7 := X7.size
      obtain ⟨o1, o2, o3⟩ := own_mk (r := d3) (c := d2) HlW.out HO7.out HV7.out
      have HA7 := hid o1; have HB7 := hid o2; have HC7 := hid o3
      have bx7 := b6.ext X7
      clear o1 o2 o3 k1 k2 k3 k4 hwf eD7 K7
      go_wp2_with (first | ((with_reducible show wpList _ _ _ (Oper.mk _ (Op.call _) _ _ _ _ :: _) _ _); refine wl_app1s (n := m) rfl rfl rfl rfl row7x hcb rfl (by simp [Value.cells, Value.oneCell']) (by unfold maxLen; omega) (by omega) (by omega) ?_; intro g7 cc7 w7 own7 gr7 hg7; have M7 := M6.add2 X7 (own_op (k := 0) (a := 0) (b := 0) cn0 HA7.out) HB7.out HC7.out hb6 L6.out own7 gr7 hg7; have L7 := hid (len_snoc L6.out (d := (0, 0, 0, 0, (d3, d2, W, ()), ()))); have row7 := M7.row' L7.out; have E7 := (E6.trans X7).grown gr7 (fun k hk => by have := own_le row7x k hk; omega); have hb7 := E7.size; have b7 := bx7.chg (Chg.of_grown gr7) (fun h => own_neHB row7x bx7 (by decide) _ h.symm rfl)) | fail)
      have eD8 := Ext.drew w7
      have k1 := (b7.ext eD8).cell 1 rfl; have k2 := (b7.ext eD8).cell 2 rfl; have k3 := (b7.ext eD8).cell 3 rfl; have k4 := (b7.ext eD8).cell 4 rfl
      have K8 := hid (fun V (h : Ext w7 V) => l02Own_any pb lB cb ub Bs V HlB.out (by omega) HY3.out (HY1.out.ext (E7.trans h)) HY2.out)
      obtain ⟨F, hF⟩ : ∃ F : Option Tmp → World → Value → Prop, F = fun _ w' u => IsFl w7.heap.size Bs w' u := ⟨_, rfl⟩
      have HF := hid hF
      clear hF
      refine wp_region_xt 9 (F := F) (by kernel_rfl) (by kernel_rfl) (by kernel_rfl) (by kernel_rfl) (by kernel_rfl) ?_
      intro wf hwf
      simp only [List.take_succ_cons, List.take_zero, List.drop_succ_cons, List.drop_zero]
      repeat (first
       | (refine x_skip rfl ?_; simp only [Act.put, ev_tmp, pu1, pu2, pu3, pu4, pu5])
       | (refine x_mv rfl rfl rfl ?_; simp only [Act.put, ev_tmp, pu1, pu2, pu3, pu4, pu5])
       | (refine x_as rfl rfl rfl ?_; simp only [Act.put, ev_tmp, pu1, pu2, pu3, pu4, pu5])
       | ((with_reducible show wpX _ _ _ _ _ _ (Oper.mk _ (Op.call _) _ _ _ _ :: _) _); refine x_callf (f := 77) (args := #[.slice pb lB cb]) rfl rfl Tryz.func77 rfl (by kernel_rfl) ?_ ?_ ?_; (focus (simp [Act.eval]; done)); (focus (intro w1 hw1; exact (by rw [HF.out]; exact calls_fl (eD8.trans hw1) (K8.out w1 (eD8.trans hw1))))); rintro u w3 e3 e4 hu; simp only [HF.out] at hu; obtain ⟨p8, c8, vs8, rfl, ho5, hf5⟩ := hu; rw [HlB.out] at ho5; (try rw [HlB.out]); have HO8 := hid (own_ext ho5 e4); have HV8 := hid hf5; clear ho5 hf5; simp only [Act.put, ev_tmp, pu1, pu2, pu3, pu4, pu5])
       | (refine x_build1 (u := .agg #[.int .i64 0, .int .i64 0, .int .i64 0, .float .f32 0, .int .i64 ((1 : Int)), .int .i64 (d3), .slice p8 lB c8]) rfl rfl rfl rfl ?_; intro gb hgb hgb2 hcb; simp only [Act.put, ev_tmp, pu1, pu2, pu3, pu4, pu5])
       | (refine x_run rfl fun K hK w1 hw1 => ?_; have k0 := hw1.cell (k1); have k1 := hw1.cell (k2); have k2 := hw1.cell (k3); have k3 := hw1.cell (k4); go_simp; refine hK _ ?_; clear hK K k0 k1 k2 k3 hw1 w1))
      refine x_nil ?_
      have X8 := eD8.trans hwf
      have row8x := (M7.ext X8).row' L7.out
      have hx8 := X8.size
      obtain ⟨o1, o2, o3⟩ := own_mk (r := (1 : Int)) (c := d3) HlB.out HO8.out HV8.out
      have HA8 := hid o1; have HB8 := hid o2; have HC8 := hid o3
      have bx8 := b7.ext X8
      clear o1 o2 o3 k1 k2 k3 k4 hwf eD8 K8
      go_wp2_with (first | ((with_reducible show wpList _ _ _ (Oper.mk _ (Op.call _) _ _ _ _ :: _) _ _); refine wl_app1s (n := m + 1) rfl rfl rfl rfl row8x hcb rfl (by simp [Value.cells, Value.oneCell']) (by unfold maxLen; omega) (by omega) (by omega) ?_; intro g8 cc8 w8 own8 gr8 hg8; have M8 := M7.add2 X8 (own_op (k := 0) (a := 0) (b := 0) cn0 HA8.out) HB8.out HC8.out hb7 L7.out own8 gr8 hg8; have L8 := hid (len_snoc L7.out (d := (0, 0, 0, 0, ((1 : Int), d3, Bs, ()), ()))); have row8 := M8.row' L8.out; have E8 := (E7.trans X8).grown gr8 (fun k hk => by have := own_le row8x k hk; omega); have hb8 := E8.size; have b8 := bx8.chg (Chg.of_grown gr8) (fun h => own_neHB row8x bx8 (by decide) _ h.symm rfl)) | ((with_reducible show wpList _ _ _ (Oper.mk _ (Op.buildSlice _ _ _) _ _ _ _ :: Oper.mk _ (Op.call _) _ _ _ _ :: _) _ _); refine wl_app1b (n := m + 1 + 1) (u := .agg #[.int .i64 7, .int .i64 m, .int .i64 0, .float .f32 0, .int .i64 0, .int .i64 0, .slice none 0 0]) rfl rfl rfl rfl rfl rfl rfl (fun _ => rfl) (fun _ => rfl) row8 (by unfold maxLen; omega) (by omega) (by omega) ?_; intro g9 c9 w9 own9 gr9 hg9; have M9 := M8.add (Ext.refl _) (own_op (k := 7) (a := (m : Int)) (b := 0) cn0 own_t0) List.nodup_nil (fun b hb => by simp at hb) hb8 L8.out own9 gr9 hg9; have L9 := hid (len_snoc L8.out (d := (7, (m : Int), 0, 0, t0, ()))); have row9 := M9.row' L9.out; have E9 := E8.grown gr9 (fun k hk => by have := own_le row8 k hk; omega); have hb9 := E9.size) | ((with_reducible show wpList _ _ _ (Oper.mk _ (Op.buildSlice _ _ _) _ _ _ _ :: Oper.mk _ (Op.call _) _ _ _ _ :: _) _ _); refine wl_app1b (n := m + 1 + 1 + 1) (u := .agg #[.int .i64 6, .int .i64 j, .int .i64 ((m : Int) + 2), .float .f32 0, .int .i64 0, .int .i64 0, .slice none 0 0]) rfl rfl rfl rfl rfl rfl rfl (fun _ => rfl) (fun _ => rfl) row9 (by unfold maxLen; omega) (by omega) (by omega) ?_; intro g10 c10 w10 own10 gr10 hg10; have M10 := M9.add (Ext.refl _) (own_op (k := 6) (a := (j : Int)) (b := ((m : Int) + 2)) cn0 own_t0) List.nodup_nil (fun b hb => by simp at hb) hb9 L9.out own10 gr10 hg10; have L10 := hid (len_snoc L9.out (d := (6, (j : Int), ((m : Int) + 2), 0, t0, ()))); have row10 := M10.row' L10.out; have E10 := E9.grown gr10 (fun k hk => by have := own_le row9 k hk; omega); have hb10 := E10.size) | ((with_reducible show wpList _ _ _ (Oper.mk _ (Op.buildSlice _ _ _) _ _ _ _ :: Oper.mk _ (Op.call _) _ _ _ _ :: _) _ _); refine wl_app1b (n := m + 1 + 1 + 1 + 1) (u := .agg #[.int .i64 2, .int .i64 ((m : Int) + 3), .int .i64 ((m : Int) + 1), .float .f32 0, .int .i64 0, .int .i64 0, .slice none 0 0]) rfl rfl rfl rfl rfl rfl rfl (fun _ => rfl) (fun _ => rfl) row10 (by unfold maxLen; omega) (by omega) (by omega) ?_; intro g11 c11 w11 own11 gr11 hg11; have M11 := M10.add (Ext.refl _) (own_op (k := 2) (a := ((m : Int) + 3)) (b := ((m : Int) + 1)) cn0 own_t0) List.nodup_nil (fun b hb => by simp at hb) hb10 L10.out own11 gr11 hg11; have L11 := hid (len_snoc L10.out (d := (2, ((m : Int) + 3), ((m : Int) + 1), 0, t0, ()))); have row11 := M11.row' L11.out; have E11 := E10.grown gr11 (fun k hk => by have := own_le row10 k hk; omega); have hb11 := E11.size) | ((with_reducible show wpList _ _ _ (Oper.mk _ (Op.buildSlice _ _ _) _ _ _ _ :: Oper.mk _ (Op.call _) _ _ _ _ :: _) _ _); refine wl_app1b (n := lw) (u := .int .i64 ((m : Int))) rfl rfl rfl rfl rfl rfl rfl (fun _ => rfl) (fun _ => rfl) (M11.wr' Hlw.out) (by unfold maxLen; omega) (by omega) (by omega) ?_; intro g12 c12 w12 own12 gr12 hg12; have M12 := M11.addW Hlw.out own12 gr12 hg12; have E12 := E11.grown gr12 (fun k hk => by have := own_le (M11.wr' Hlw.out) k hk; omega); have hb12 := E12.size) | ((with_reducible show wpList _ _ _ (Oper.mk _ (Op.buildSlice _ _ _) _ _ _ _ :: Oper.mk _ (Op.call _) _ _ _ _ :: _) _ _); refine wl_app1b (n := lw + 1) (u := .int .i64 ((m : Int) + 1)) rfl rfl rfl rfl rfl rfl rfl (fun _ => rfl) (fun _ => rfl) (M12.wr' (len_snoc Hlw.out)) (by unfold maxLen; omega) (by omega) (by omega) ?_; intro g13 c13 w13 own13 gr13 hg13; have M13 := M12.addW (len_snoc Hlw.out) own13 gr13 hg13; have E13 := E12.grown gr13 (fun k hk => by have := own_le (M12.wr' (len_snoc Hlw.out)) k hk; omega); have hb13 := E13.size) | fail)
      go_roundw
      case rel =>
       have hst := HMT.out.trans (mtr_dense Hm.out)
       have h1 := congrArg Prod.fst hst
       have h2 := congrArg (fun s => s.2.1) hst
       have h3 := congrArg (fun s => s.2.2) hst
       dsimp only at h1 h2 h3
       have hM := M13
       rw [← h1, ← h2] at hM
       exact ⟨i + 1, _, _, by omega, by go_num, by rw [h3] <;> first | go_num | (congr 1; omega), tapeB_step HD.out (Or.inl rfl) HT.out, hM, E13⟩
      case measure => simp [intOf]; omega
    · by_cases h1 : d1 = 1
      · subst h1
        clear h0
        subst hW6
        have L6 := Hm
        have hb6 := E6.size
        have row6 := M6.row' Hm.out
        go_wp2_with (first | ((with_reducible show wpList _ _ _ (Oper.mk _ (Op.indexAddr _ _ _) _ _ _ _ :: Oper.mk _ (Op.load _ _) _ _ _ _ :: _) _ _); refine wl_idxloadE (s := shLayer) (j := i) rfl rfl rfl rfl (fun _ => rfl) rfl rfl rfl hp l3 l5.out hlt hs1 hci ?_; simp only [ofCs, Sh.agg, if_true]) | ((with_reducible show wpList _ _ _ (Oper.mk _ (Op.buildSlice _ _ _) _ _ _ _ :: Oper.mk _ (Op.call _) _ _ _ _ :: _) _ _); refine wl_app1b (n := m) (u := .agg #[.int .i64 8, .int .i64 j, .int .i64 0, .float .f32 0, .int .i64 0, .int .i64 0, .slice none 0 0]) rfl rfl rfl rfl rfl rfl rfl (fun _ => rfl) (fun _ => rfl) row6 (by unfold maxLen; omega) (by omega) (by omega) ?_; intro g7 c7 w7 own7 gr7 hg7; have M7 := M6.add (Ext.refl _) (own_op (k := 8) (a := (j : Int)) (b := 0) cn0 own_t0) List.nodup_nil (fun b hb => by simp at hb) hb6 L6.out own7 gr7 hg7; have L7 := hid (len_snoc L6.out (d := (8, (j : Int), 0, 0, t0, ()))); have row7 := M7.row' L7.out; have E7 := E6.grown gr7 (fun k hk => by have := own_le row6 k hk; omega); have hb7 := E7.size) | fail)
        go_roundw
        case rel =>
         have hst := HMT.out.trans (mtr_relu Hm.out)
         have h1 := congrArg Prod.fst hst
         have h2 := congrArg (fun s => s.2.1) hst
         have h3 := congrArg (fun s => s.2.2) hst
         dsimp only at h1 h2 h3
         have hM := M7
         rw [← h1, ← h2] at hM
         exact ⟨i + 1, _, _, by omega, by go_num, by rw [h3] <;> first | go_num | (congr 1; omega), tapeB_step HD.out (Or.inr (Or.inl rfl)) HT.out, hM, E7⟩
        case measure => simp [intOf]; omega
      · by_cases h2 : d1 = 2
        · subst h2
          clear h0 h1
          go_wp2_with (first | ((with_reducible show wpList _ _ _ (Oper.mk _ (Op.indexAddr _ _ _) _ _ _ _ :: Oper.mk _ (Op.load _ _) _ _ _ _ :: _) _ _); refine wl_idxloadE (s := shLayer) (j := i) rfl rfl rfl rfl (fun _ => rfl) rfl rfl rfl hp l3 l5.out hlt hs1 hci ?_; simp only [ofCs, Sh.agg, if_true]) | fail)
          rw [← hW6]
          have L6 := Hm
          have hb6 := E6.size
          have row6 := M6.row' Hm.out
          have eD7 := Ext.drew w6
          have k1 := (b6.ext eD7).cell 1 rfl; have k2 := (b6.ext eD7).cell 2 rfl; have k3 := (b6.ext eD7).cell 3 rfl; have k4 := (b6.ext eD7).cell 4 rfl
          have K7 := hid (fun V (h : Ext w6 V) => l02Own_any pw lW cw uw W V HlW.out (by omega) HX3.out (HX1.out.ext (E6.trans h)) HX2.out)
          obtain ⟨F, hF⟩ : ∃ F : Option Tmp → World → Value → Prop, F = fun _ w' u => IsFl w6.heap.size W w' u := ⟨_, rfl⟩
          have HF := hid hF
          clear hF
          refine wp_region_xt 9 (F := F) (by kernel_rfl) (by kernel_rfl) (by kernel_rfl) (by kernel_rfl) (by kernel_rfl) ?_
          intro wf hwf
          simp only [List.take_succ_cons, List.take_zero, List.drop_succ_cons, List.drop_zero]
          repeat (first
           | (refine x_skip rfl ?_; simp only [Act.put, ev_tmp, pu1, pu2, pu3, pu4, pu5])
           | (refine x_mv rfl rfl rfl ?_; simp only [Act.put, ev_tmp, pu1, pu2, pu3, pu4, pu5])
           | (refine x_as rfl rfl rfl ?_; simp only [Act.put, ev_tmp, pu1, pu2, pu3, pu4, pu5])
           | ((with_reducible show wpX _ _ _ _ _ _ (Oper.mk _ (Op.call _) _ _ _ _ :: _) _); refine x_callf (f := 77) (args := #[.slice pw lW cw]) rfl rfl Tryz.func77 rfl (by kernel_rfl) ?_ ?_ ?_; (focus (simp [Act.eval]; done)); (focus (intro w1 hw1; exact (by rw [HF.out]; exact calls_fl (eD7.trans hw1) (K7.out w1 (eD7.trans hw1))))); rintro u w3 e3 e4 hu; simp only [HF.out] at hu; obtain ⟨p7, c7, vs7, rfl, ho5, hf5⟩ := hu; rw [HlW.out] at ho5; (try rw [HlW.out]); have HO7 := hid (own_ext ho5 e4); have HV7 := hid hf5; clear ho5 hf5; simp only [Act.put, ev_tmp, pu1, pu2, pu3, pu4, pu5])
           | (refine x_build1 (u := .agg #[.int .i64 0, .int .i64 0, .int .i64 0, .float .f32 0, .int .i64 ((1 : Int)), .int .i64 (d2), .slice p7 lW c7]) rfl rfl rfl rfl ?_; intro gb hgb hgb2 hcb; simp only [Act.put, ev_tmp, pu1, pu2, pu3, pu4, pu5])
           | (refine x_run rfl fun K hK w1 hw1 => ?_; have k0 := hw1.cell (k1); have k1 := hw1.cell (k2); have k2 := hw1.cell (k3); go_simp; refine hK _ ?_; clear hK K k0 k1 k2 hw1 w1))
          refine x_nil ?_
          have X7 := eD7.trans hwf
          have row7x := (M6.ext X7).row' L6.out
          have hx7 := X7.size
          obtain ⟨o1, o2, o3⟩ := own_mk (r := (1 : Int)) (c := d2) HlW.out HO7.out HV7.out
          have HA7 := hid o1; have HB7 := hid o2; have HC7 := hid o3
          have bx7 := b6.ext X7
          clear o1 o2 o3 k1 k2 k3 k4 hwf eD7 K7
          go_wp2_with (first | ((with_reducible show wpList _ _ _ (Oper.mk _ (Op.call _) _ _ _ _ :: _) _ _); refine wl_app1s (n := m) rfl rfl rfl rfl row7x hcb rfl (by simp [Value.cells, Value.oneCell']) (by unfold maxLen; omega) (by omega) (by omega) ?_; intro g7 cc7 w7 own7 gr7 hg7; have M7 := M6.add2 X7 (own_op (k := 0) (a := 0) (b := 0) cn0 HA7.out) HB7.out HC7.out hb6 L6.out own7 gr7 hg7; have L7 := hid (len_snoc L6.out (d := (0, 0, 0, 0, ((1 : Int), d2, W, ()), ()))); have row7 := M7.row' L7.out; have E7 := (E6.trans X7).grown gr7 (fun k hk => by have := own_le row7x k hk; omega); have hb7 := E7.size; have b7 := bx7.chg (Chg.of_grown gr7) (fun h => own_neHB row7x bx7 (by decide) _ h.symm rfl)) | ((with_reducible show wpList _ _ _ (Oper.mk _ (Op.buildSlice _ _ _) _ _ _ _ :: Oper.mk _ (Op.call _) _ _ _ _ :: _) _ _); refine wl_app1b (n := m + 1) (u := .agg #[.int .i64 4, .int .i64 j, .int .i64 m, .float .f32 0, .int .i64 0, .int .i64 0, .slice none 0 0]) rfl rfl rfl rfl rfl rfl rfl (fun _ => rfl) (fun _ => rfl) row7 (by unfold maxLen; omega) (by omega) (by omega) ?_; intro g8 c8 w8 own8 gr8 hg8; have M8 := M7.add (Ext.refl _) (own_op (k := 4) (a := (j : Int)) (b := (m : Int)) cn0 own_t0) List.nodup_nil (fun b hb => by simp at hb) hb7 L7.out own8 gr8 hg8; have L8 := hid (len_snoc L7.out (d := (4, (j : Int), (m : Int), 0, t0, ()))); have row8 := M8.row' L8.out; have E8 := E7.grown gr8 (fun k hk => by have := own_le row7 k hk; omega); have hb8 := E8.size) | ((with_reducible show wpList _ _ _ (Oper.mk _ (Op.buildSlice _ _ _) _ _ _ _ :: Oper.mk _ (Op.call _) _ _ _ _ :: _) _ _); refine wl_app1b (n := lw) (u := .int .i64 ((m : Int))) rfl rfl rfl rfl rfl rfl rfl (fun _ => rfl) (fun _ => rfl) (M8.wr' Hlw.out) (by unfold maxLen; omega) (by omega) (by omega) ?_; intro g9 c9 w9 own9 gr9 hg9; have M9 := M8.addW Hlw.out own9 gr9 hg9; have E9 := E8.grown gr9 (fun k hk => by have := own_le (M8.wr' Hlw.out) k hk; omega); have hb9 := E9.size) | fail)
          go_roundw
          case rel =>
           have hst := HMT.out.trans (mtr_scale Hm.out)
           have h1 := congrArg Prod.fst hst
           have h2 := congrArg (fun s => s.2.1) hst
           have h3 := congrArg (fun s => s.2.2) hst
           dsimp only at h1 h2 h3
           have hM := M9
           rw [← h1, ← h2] at hM
           exact ⟨i + 1, _, _, by omega, by go_num, by rw [h3] <;> first | go_num | (congr 1; omega), tapeB_step HD.out (Or.inr (Or.inr rfl)) HT.out, hM, E9⟩
          case measure => simp [intOf]; omega
        · have q0 : (d1 == 0) = false := by simpa using h0
          have q1 : (d1 == 1) = false := by simpa using h1
          have q2 : (d1 == 2) = false := by simpa using h2
          have HN := hid (show ¬ (d1 = 0 ∨ d1 = 1 ∨ d1 = 2) by simp [h0, h1, h2])
          go_wp2_with (first | ((with_reducible show wpList _ _ _ (Oper.mk _ (Op.indexAddr _ _ _) _ _ _ _ :: Oper.mk _ (Op.load _ _) _ _ _ _ :: _) _ _); refine wl_idxloadE (s := shLayer) (j := i) rfl rfl rfl rfl (fun _ => rfl) rfl rfl rfl hp l3 l5.out hlt hs1 hci ?_; simp only [ofCs, Sh.agg, if_true]) | fail)
          refine bodyPost_ret (results_tmp3 (t := 8) (u := 9) (v := 10) (by kernel_rfl) _ _ _) rfl ?_
          rw [← hW6]
          exact ⟨Or.inl ⟨tapeB_no HD.out HN.out, _, _, rfl⟩, E6⟩
  · obtain rfl : i = n := by omega
    have hMT : ∀ z, mtape L ((R : Int), (C : Int), xs, ()) ((R : Int), (D : Int), ys, ()) z = mtEnd (mtTo L ((R : Int), (C : Int), xs, ()) ((R : Int), (D : Int), ys, ()) i) z := fun z => by unfold mtape; rw [HLl.out]
    have hMW : mweights L ((R : Int), (C : Int), xs, ()) ((R : Int), (D : Int), ys, ()) = (mtTo L ((R : Int), (C : Int), xs, ()) ((R : Int), (D : Int), ys, ()) i).2.1 := by unfold mweights; rw [HLl.out]
    have hT : tapeB L = true := by have h := HT.out; rw [List.take_of_length_le (by rw [HLl.out]; exact Nat.le_refl _)] at h; exact h
    have HMt := hid hMT; have HMw := hid hMW; have HTb := hid hT
    clear hMT hMW hT HT
    generalize mtTo L ((R : Int), (C : Int), xs, ()) ((R : Int), (D : Int), ys, ()) i = s at *
    obtain ⟨ops, ws, j⟩ := s
    dsimp only at hlen hwl M HMt HMw
    obtain ⟨m, hm⟩ : ∃ m, ops.length = m := ⟨_, rfl⟩
    rw [hm] at hlen
    have hm32 : m ≤ 32 := by omega
    have hjm : j < m := hlen.2.2
    have hrow := M.row' hm
    obtain ⟨qv, kv, rfl⟩ := own_slice hrow
    have L6 := hid hm
    have Hm := hid hm
    have M6 := M
    have E6 := he
    have row6 := hrow
    have hb6 := he.size
    clear hlen hwl hm
    go_wp2_with (first | ((with_reducible show wpList _ _ _ (Oper.mk _ (Op.buildSlice _ _ _) _ _ _ _ :: Oper.mk _ (Op.call _) _ _ _ _ :: _) _ _); refine wl_app1b (n := m) (u := .agg #[.int .i64 5, .int .i64 1, .int .i64 0, .float .f32 3212836864, .int .i64 0, .int .i64 0, .slice none 0 0]) rfl rfl rfl rfl rfl rfl rfl (fun _ => rfl) (fun _ => rfl) row6 (by unfold maxLen; omega) (by omega) (by omega) ?_; intro g7 c7 w7 own7 gr7 hg7; have M7 := M6.add (Ext.refl _) (own_op (k := 5) (a := 1) (b := 0) cn_neg1 own_t0) List.nodup_nil (fun b hb => by simp at hb) hb6 L6.out own7 gr7 hg7; have L7 := hid (len_snoc L6.out (d := (5, 1, 0, negOne, t0, ()))); have row7 := M7.row' L7.out; have E7 := E6.grown gr7 (fun k hk => by have := own_le row6 k hk; omega); have hb7 := E7.size) | ((with_reducible show wpList _ _ _ (Oper.mk _ (Op.buildSlice _ _ _) _ _ _ _ :: Oper.mk _ (Op.call _) _ _ _ _ :: _) _ _); refine wl_app1b (n := m + 1) (u := .agg #[.int .i64 1, .int .i64 j, .int .i64 m, .float .f32 0, .int .i64 0, .int .i64 0, .slice none 0 0]) rfl rfl rfl rfl rfl rfl rfl (fun _ => rfl) (fun _ => rfl) row7 (by unfold maxLen; omega) (by omega) (by omega) ?_; intro g8 c8 w8 own8 gr8 hg8; have M8 := M7.add (Ext.refl _) (own_op (k := 1) (a := (j : Int)) (b := (m : Int)) cn0 own_t0) List.nodup_nil (fun b hb => by simp at hb) hb7 L7.out own8 gr8 hg8; have L8 := hid (len_snoc L7.out (d := (1, (j : Int), (m : Int), 0, t0, ()))); have row8 := M8.row' L8.out; have E8 := E7.grown gr8 (fun k hk => by have := own_le row7 k hk; omega); have hb8 := E8.size) | ((with_reducible show wpList _ _ _ (Oper.mk _ (Op.buildSlice _ _ _) _ _ _ _ :: Oper.mk _ (Op.call _) _ _ _ _ :: _) _ _); refine wl_app1b (n := m + 1 + 1) (u := .agg #[.int .i64 9, .int .i64 ((m : Int) + 1), .int .i64 0, .float .f32 0, .int .i64 0, .int .i64 0, .slice none 0 0]) rfl rfl rfl rfl rfl rfl rfl (fun _ => rfl) (fun _ => rfl) row8 (by unfold maxLen; omega) (by omega) (by omega) ?_; intro g9 c9 w9 own9 gr9 hg9; have M9 := M8.add (Ext.refl _) (own_op (k := 9) (a := ((m : Int) + 1)) (b := 0) cn0 own_t0) List.nodup_nil (fun b hb => by simp at hb) hb8 L8.out own9 gr9 hg9; have L9 := hid (len_snoc L8.out (d := (9, ((m : Int) + 1), 0, 0, t0, ()))); have row9 := M9.row' L9.out; have E9 := E8.grown gr9 (fun k hk => by have := own_le row8 k hk; omega); have hb9 := E9.size) | ((with_reducible show wpList _ _ _ (Oper.mk _ (Op.buildSlice _ _ _) _ _ _ _ :: Oper.mk _ (Op.call _) _ _ _ _ :: _) _ _); refine wl_app1b (n := m + 1 + 1 + 1) (u := .agg #[.int .i64 10, .int .i64 ((m : Int) + 2), .int .i64 0, .float .f32 0, .int .i64 0, .int .i64 0, .slice none 0 0]) rfl rfl rfl rfl rfl rfl rfl (fun _ => rfl) (fun _ => rfl) row9 (by unfold maxLen; omega) (by omega) (by omega) ?_; intro g10 c10 w10 own10 gr10 hg10; have M10 := M9.add (Ext.refl _) (own_op (k := 10) (a := ((m : Int) + 2)) (b := 0) cn0 own_t0) List.nodup_nil (fun b hb => by simp at hb) hb9 L9.out own10 gr10 hg10; have L10 := hid (len_snoc L9.out (d := (10, ((m : Int) + 2), 0, 0, t0, ()))); have row10 := M10.row' L10.out; have E10 := E9.grown gr10 (fun k hk => by have := own_le row9 k hk; omega); have hb10 := E10.size) | ((with_reducible show wpList _ _ _ (Oper.mk _ (Op.buildSlice _ _ _) _ _ _ _ :: Oper.mk _ (Op.call _) _ _ _ _ :: _) _ _); refine wl_app1b (n := m + 1 + 1 + 1 + 1) (u := .agg #[.int .i64 5, .int .i64 ((m : Int) + 3), .int .i64 0, .float .f32 zb, .int .i64 0, .int .i64 0, .slice none 0 0]) rfl rfl rfl rfl rfl rfl rfl (fun _ => rfl) (fun _ => rfl) row10 (by unfold maxLen; omega) (by omega) (by omega) ?_; intro g11 c11 w11 own11 gr11 hg11; have M11 := M10.add (Ext.refl _) (own_op (k := 5) (a := ((m : Int) + 3)) (b := 0) HZ.out own_t0) List.nodup_nil (fun b hb => by simp at hb) hb10 L10.out own11 gr11 hg11; have L11 := hid (len_snoc L10.out (d := (5, ((m : Int) + 3), 0, z, t0, ()))); have row11 := M11.row' L11.out; have E11 := E10.grown gr11 (fun k hk => by have := own_le row10 k hk; omega); have hb11 := E11.size) | fail)
    refine bodyPost_ret (results_tmp3 (t := 8) (u := 9) (v := 10) (by kernel_rfl) _ _ _) rfl ?_
    have h1 := (HMt.out z).trans (mtr_end (z := z) Hm.out)
    have h2 := HMw.out
    have hM := M11
    rw [← h1, ← h2] at hM
    exact ⟨Or.inr ⟨HTb.out, _, _, _, _, rfl, hM⟩, E11⟩
end Go.Proofs.YtlimabbeaimdgaaGreat
