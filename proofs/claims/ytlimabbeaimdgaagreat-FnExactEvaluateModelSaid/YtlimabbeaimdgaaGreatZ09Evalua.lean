/- A part of the proofs: TnI4, TnI5, TnI6. -/
import Derived.Test.YtlimabbeaimdgaaGreatZ08Evalua
set_option linter.unusedSimpArgs false
set_option linter.unusedVariables false
namespace Go.Proofs.YtlimabbeaimdgaaGreat
open Go.RowKit
theorem rowT_at {xs : List Nat} {C R r k : Nat} (hx : xs.length = R * C) (hr : r < R) (hk : k < C) : (rowT xs C r).getD k 0 = xs.getD (r * C + k) 0 := by
 unfold rowT
 have h1 : (r + 1) * C ≤ R * C := row_le hr
 rw [List.getD_eq_getElem?_getD, List.getElem?_drop, List.getElem?_take, if_pos (by rw [Nat.add_mul]; omega), ← List.getD_eq_getElem?_getD]
set_option maxRecDepth 100000 in
set_option maxHeartbeats 4000000 in
theorem transposed_any (R C : Nat) (p : Option Addr) (n cp : Nat) (us : List Value) (xs : List Nat) (w : World) (hx : xs.length = n) (hn : n = R * C) (hR : R ≤ 16) (hC : C ≤ 16) (hcp : n ≤ cp) (hp : Cs w p us) (hf : F32s us xs) :
 Calls Tryz.prog 109 #[.agg #[.int .i64 R, .int .i64 C, .slice p n cp]] w (RetTen w C R (turnX R C xs)) := by
 have B := hid (fun j (hj : j < R) W (h : Ext w W) => row_any R C j n cp p W hj hR hC hn hcp)
 have hrow : Hid (∀ j, j < R → ∃ (ls : List Value) (zs : List Nat), (∀ W, Ext w W → Cs W (subp p 1 (j * C) cp) ls) ∧ F32s ls zs ∧ zs.length = C ∧ ∀ i, i < C → zs.getD i 0 = xs.getD (j * C + i) 0) := fun j hj =>
  ⟨_, rowT xs C j, fun W h => row_cs (i := j) (C := C) (cp := cp) (hp.ext h) (by have := row_le (c := C) hj; omega), hf.part _ _, rowT_len (by rw [hx, hn]) hj, fun i hi => rowT_at (by rw [hx, hn]) hj hi⟩
 obtain ⟨f, hfe⟩ : ∃ f : Nat → Nat, f = fun k => xs.getD (k % R * C + k / R) 0 := ⟨_, rfl⟩
 have HF0 := hid (fun i j (hj : j < R) => show f (i * R + j) = xs.getD (j * C + i) 0 by rw [hfe]; simp only; rw [(div_mod_at hj).1, (div_mod_at hj).2])
 have HT := hid (show turnX R C xs = ntab (C * R) f by rw [hfe]; rfl)
 have HCR : C * R ≤ 256 := Nat.mul_le_mul hC hR
 clear hfe hx hn hp hf hcp
 rw [HT.out]
 obtain ⟨W0, hW0⟩ : ∃ W0, W0 = ((w.alloc (.cells #[.int .i64 R, .int .i64 C, .slice p n cp] 37)).alloc (.cells #[.int .i64 0, .int .i64 0, .slice none 0 0] 37)).alloc (.cells #[.int .i64 C, .int .i64 R, .slice none 0 0] 37) := ⟨_, rfl⟩
 obtain ⟨E0, s0, b0, b1, b2⟩ := box3 hW0
 have b0 : HB W0 w.heap.size #[.int .i64 R, .int .i64 C, .slice p n cp] 37 := b0
 have b1 : HB W0 (w.heap.size + 1) #[.int .i64 0, .int .i64 0, .slice none 0 0] 37 := b1
 have b2 : HB W0 (w.heap.size + 1 + 1) #[.int .i64 C, .int .i64 R, .slice none 0 0] 37 := b2
 obtain ⟨N, hN⟩ : ∃ N, N = w.heap.size + 1 := ⟨_, rfl⟩
 obtain ⟨M, hM⟩ : ∃ M, M = w.heap.size + 1 + 1 := ⟨_, rfl⟩
 rw [← hN] at b1
 rw [← hM] at b2
 go_enter Tryz.func109, Tryz.ntmps109
 go_wp2
 rw [← hW0, ← hM, ← hN]
 have l1 : w.heap.size < N := by omega
 have l2 : N < M := by omega
 clear hW0 hM hN
 go_loopw [13] (fun iv wr => ∃ (i : Nat) (vs : List Value) (q : Option Addr) (cq : Nat), i ≤ C ∧ iv = .int .i64 (i : Int) ∧ HB wr M #[.int .i64 C, .int .i64 R, .slice q (i * R) cq] 37 ∧ HB wr N #[.int .i64 0, .int .i64 0, .slice none 0 0] 37 ∧ HB wr w.heap.size #[.int .i64 R, .int .i64 C, .slice p n cp] 37 ∧ wr.ownsRow w.heap.size 48 1 (.slice q (i * R) cq) (i * R) vs ∧ Hid (F32s vs (ntab (i * R) f)) ∧ Ext w wr) (fun iv _ => C - (intOf iv).toNat)
 case atStart => exact ⟨0, [], none, 0, by omega, rfl, by rw [Nat.zero_mul]; exact b2, b1, b0, by rw [Nat.zero_mul]; exact own_nil0, by rw [Nat.zero_mul]; exact F32s.nil, E0⟩
 case round =>
  clear b2 b1 b0 E0
  obtain ⟨i, vs, q, cq, hi, rfl, b2, b1, b0, own, HV, he⟩ := hrel
  obtain ⟨A, hA⟩ : ∃ A, A = i * R := ⟨_, rfl⟩
  rw [← hA] at b2 own HV
  by_cases hlt : i < C
  · have hAR : (i + 1) * R = A + R := by rw [Nat.add_mul, hA]; omega
    have hA2 : A + R ≤ 256 := by have := Nat.mul_le_mul_right R (show i + 1 ≤ C by omega); omega
    have HA := hid hA
    have HAR := hid hAR
    clear hA hAR
    have k0 := b0.cell 0 rfl
    go_wp2
    clear k0
    go_loopw [18] (fun jv wq => ∃ (j : Nat) (vs : List Value) (q : Option Addr) (cq : Nat), j ≤ R ∧ jv = .int .i64 (j : Int) ∧ HB wq M #[.int .i64 C, .int .i64 R, .slice q (A + j) cq] 37 ∧ HB wq N #[.int .i64 0, .int .i64 0, .slice none 0 0] 37 ∧ HB wq w.heap.size #[.int .i64 R, .int .i64 C, .slice p n cp] 37 ∧ wq.ownsRow w.heap.size 48 1 (.slice q (A + j) cq) (A + j) vs ∧ Hid (F32s vs (ntab (A + j) f)) ∧ Ext w wq) (fun jv _ => R - (intOf jv).toNat)
    case atStart => exact ⟨0, vs, q, cq, by omega, rfl, b2, b1, b0, own, HV, he⟩
    case round =>
     clear b2 b1 b0 own HV he
     obtain ⟨j, vs, q, cq, hj, rfl, b2, b1, b0, own, HV, he⟩ := hrel
     by_cases hlt2 : j < R
     · have eD := Ext.drew wr
       have c2 := b2.ext eD
       have c1 := b1.ext eD
       have c0 := b0.ext eD
       have y2 := c2.cell 2 rfl
       have z0 := c0.cell 0 rfl; have z1 := c0.cell 1 rfl; have z2 := c0.cell 2 rfl
       have o1 := own_ext own eD
       obtain ⟨F, hF⟩ : ∃ F : Option Tmp → World → Value → Prop, F = fun _ _ u => u = .slice (subp p 1 (j * C) cp) C (cp - j * C) := ⟨_, rfl⟩
       have HF := hid hF
       obtain ⟨ls, zs, r2', r3, r4, r5⟩ := hrow.out j hlt2
       have r2 := r2' _ (he.trans eD)
       have R5 := hid r5
       have R4 := hid r4
       clear r2' r5 r4
       clear hF
       go_wp2_with fail
       refine wp_region_xt 9 (F := F) (by kernel_rfl) (by kernel_rfl) (by kernel_rfl) (by kernel_rfl) (by kernel_rfl) ?_
       intro wf hwf
       simp only [List.take_succ_cons, List.take_zero, List.drop_succ_cons, List.drop_zero]
       repeat (first
        | (refine x_skip rfl ?_; simp only [Act.put, ev_tmp, pu1, pu2, pu3, pu4, pu5])
        | (refine x_mv rfl rfl rfl ?_; simp only [Act.put, ev_tmp, pu1, pu2, pu3, pu4, pu5])
        | (refine x_as rfl rfl rfl ?_; simp only [Act.put, ev_tmp, pu1, pu2, pu3, pu4, pu5])
        | ((with_reducible show wpX _ _ _ _ _ _ (Oper.mk _ (Op.call _) _ _ _ _ :: _) _); refine x_callf (f := 124) (args := #[.agg #[.int .i64 R, .int .i64 C, .slice p n cp], .int .i64 j]) rfl rfl Tryz.func124 rfl (by kernel_rfl) ?_ ?_ ?_; (focus (simp [Act.eval]; done)); (focus (intro w1 hw1; exact (by rw [HF.out]; exact (B.out j hlt2 w1 (he.trans (eD.trans hw1))).mono fun e w3 h => ⟨_, h.1, h.2, rfl⟩))); rintro u w3 e3 e4 hu; simp only [HF.out] at hu; subst hu; simp only [Act.put, ev_tmp, pu1, pu2, pu3, pu4, pu5])
        | ((with_reducible show wpX _ _ _ _ _ _ (Oper.mk _ (Op.indexAddr _ _ _) _ _ _ _ :: Oper.mk _ (Op.load _ _) _ _ _ _ :: _) _); refine x_ldF rfl rfl (fun _ => rfl) rfl (fun _ => rfl) rfl rfl r2 r3 R4.out (by omega) (by omega) ?_; intro r1 g1; have G1 := hid g1; clear g1; simp only [Act.put, ev_tmp, pu1, pu2, pu3, pu4, pu5])
        | (refine x_build1 (u := .float .f32 r1) rfl rfl rfl rfl ?_; intro g7 hg7 hg7' hc7; simp only [Act.put, ev_tmp, pu1, pu2, pu3, pu4, pu5])
        | (refine x_run rfl fun K hK w1 hw1 => ?_; have k0 := hw1.cell (y2); have k1 := hw1.cell (z0); have k2 := hw1.cell (z1); have k3 := hw1.cell (z2); go_simp; refine hK _ ?_; clear hK K k0 k1 k2 k3 hw1 w1))
       refine x_nil ?_
       have d2 := c2.ext hwf
       have d1 := c1.ext hwf
       have d0 := c0.ext hwf
       have o2 := own_ext o1 hwf
       have l2 := d2.cell 2 rfl
       have f2 := d2.froz 2
       have hsz := he.trans (eD.trans hwf)
       have hs2 := hsz.size
       clear y2 z0 z1 z2 r2 r3
       go_wp2_with ((with_reducible show wpList _ _ _ (Oper.mk _ (Op.call _) _ _ _ _ :: _) _ _); refine wl_app1s rfl rfl rfl rfl o2 hc7 rfl (by simp [Value.cells, Value.oneCell']) (by unfold maxLen; omega) (by omega) (by omega) ?_; intro g9 c9 w9 own9 gr9 hg9; have d3 := d2.chg (Chg.of_grown gr9) (fun h => own_neHB o2 d2 (by decide) _ h.symm rfl); have l3 := d3.cell 2 rfl; have f3 := d3.froz 2)
       go_roundw
       case rel =>
        have e9 : Ext w w9 := hsz.grown gr9 (fun k hk => by have := own_le o2 k hk; omega)
        have hch := chg_cell w9 M 2 (.slice (some ⟨g9, 0, none⟩) (A + j + 1) c9)
        have hb1 : cn .f32 r1 = f (A + j) := by
         have := G1.out
         rw [Int.toNat_natCast, R5.out i hlt, ← HF0.out i j hlt2, ← HA.out] at this
         exact this
        exact ⟨j + 1, _, some ⟨g9, 0, none⟩, c9, by omega, by go_num, d3.set 2 _, (d1.chg (Chg.of_grown gr9) (fun h => own_neHB o2 d1 (by decide) _ h.symm rfl)).chg hch (fun h => by omega), (d0.chg (Chg.of_grown gr9) (fun h => own_neHB o2 d0 (by decide) _ h.symm rfl)).chg hch (fun h => by omega), ownsRow_chg own9 hch (fun k hk hs => own_neHB own9 d3 (by decide) k hk hs), f32s_snoc HV.out hb1, e9.chg hch (fun k hk => by omega)⟩
       case measure => simp [intOf]; omega
     · obtain rfl : j = R := by omega
       go_wp2
       go_roundw
       case rel => exact ⟨i + 1, vs, q, cq, by omega, by go_num, by rw [HAR.out]; exact b2, b1, b0, by rw [HAR.out]; exact own, by rw [HAR.out]; exact HV, he⟩
       case measure => simp [intOf]; omega
  · obtain rfl : i = C := by omega
    rw [← hA]
    have y0 := b2.cell 0 rfl; have y1 := b2.cell 1 rfl; have y2 := b2.cell 2 rfl
    have n0 := b1.cell 0 rfl; have n1 := b1.cell 1 rfl; have n2 := b1.cell 2 rfl
    have m0 := b1.froz 0; have m1 := b1.froz 1; have m2 := b1.froz 2
    have HA := hid hA
    clear hA
    go_wp2
    refine bodyPost_ret (v := .agg #[.int .i64 i, .int .i64 R, .slice q A cq]) (by simp [results, Tryz.results109, go_sem, n0, n1, n2, m0, m1, m2]) rfl ?_
    obtain rfl := HA.out
    exact RetTen.of (ntab_len _ _) (ownsRow_chg own (S := fun k => k = N) (by (repeat (first | with_reducible exact Chg.refl _ _ | (with_reducible exact Chg.of_ext (by with_reducible assumption)) | with_reducible assumption | ((with_reducible refine Chg.setCell ?_ ?_ _); rotate_left; focus (first | (simp; done) | (simp; omega))) | (with_reducible refine Chg.alloc ?_ _) | (with_reducible refine Chg.drew ?_) | (with_reducible refine Chg.trans ?_ (Chg.of_ext (by with_reducible assumption)))))) (fun k hk hs => own_neHB own b1 (by decide) k hk hs)) HV.out rfl (he.chg (S := fun k => k = N) (by (repeat (first | with_reducible exact Chg.refl _ _ | (with_reducible exact Chg.of_ext (by with_reducible assumption)) | with_reducible assumption | ((with_reducible refine Chg.setCell ?_ ?_ _); rotate_left; focus (first | (simp; done) | (simp; omega))) | (with_reducible refine Chg.alloc ?_ _) | (with_reducible refine Chg.drew ?_) | (with_reducible refine Chg.trans ?_ (Chg.of_ext (by with_reducible assumption)))))) (fun k hk => by omega))
theorem turnX_at {K C : Nat} {ys : List Nat} {c j : Nat} (hc : c < C) (hj : j < K) : (turnX K C ys).getD (c * K + j) 0 = ys.getD (j * C + c) 0 := by
 unfold turnX
 rw [ntab_get _ (row_lt hc hj), (div_mod_at hj).1, (div_mod_at hj).2]
theorem Chg.new {S S' : Nat → Prop} {w0 w w' : World} (h : Chg S w0 w) (k : Chg S' w w') (hs : ∀ b, S' b → S b ∨ w0.heap.size ≤ b) : Chg S w0 w' :=
 ⟨k.os.trans h.os, k.tape.trans h.tape, k.output.trans h.output, Nat.le_trans h.size k.size, fun b hb hn => (k.block b (Nat.lt_of_lt_of_le hb h.size) (fun h' => by rcases hs b h' with h1 | h1; exact hn h1; omega)).trans (h.block b hb hn)⟩
set_option maxRecDepth 100000 in
set_option maxHeartbeats 4000000 in
theorem products_any (R K C : Nat) (p q : Option Addr) (n cp m cq : Nat) (us vs : List Value) (xs ys : List Nat) (w : World) (hx : xs.length = n) (hn : n = R * K) (hy : ys.length = m) (hm : m = K * C) (hR : R ≤ 16) (hK : K ≤ 16) (hC : C ≤ 16) (hcp : n ≤ cp) (hcq : m ≤ cq)
 (hp : Cs w p us) (hf : F32s us xs) (hq : Cs w q vs) (hg : F32s vs ys) :
 Calls Tryz.prog 122 #[.agg #[.int .i64 R, .int .i64 K, .slice p n cp], .agg #[.int .i64 K, .int .i64 C, .slice q m cq], .func (.func 123) #[] #[]] w (RetTen w R C (mmX R K C xs ys)) := by
 have hRow : Hid (∀ i, i < R → ∃ (ls : List Value) (zs : List Nat), (∀ W, Ext w W → Cs W (subp p 1 (i * K) cp) ls) ∧ F32s ls zs ∧ zs.length = K ∧ ∀ j, j < K → zs.getD j 0 = xs.getD (i * K + j) 0) := fun i hi =>
  ⟨_, rowT xs K i, fun W h => row_cs (i := i) (C := K) (cp := cp) (hp.ext h) (by have := row_le (c := K) hi; omega), hf.part _ _, rowT_len (by rw [hx, hn]) hi, fun j hj => rowT_at (by rw [hx, hn]) hi hj⟩
 have B := hid (fun j (hj : j < R) W (h : Ext w W) => row_any R K j n cp p W hj hR hK hn hcp)
 have BT := hid (fun (q2 : Option Addr) (N2 c2 : Nat) (h2 : N2 = C * K) (h3 : N2 ≤ c2) j (hj : j < C) W => row_any C K j N2 c2 q2 W hj hC hK h2 h3)
 have T := hid (fun W (h : Ext w W) => transposed_any K C q m cq vs ys W hy hm hK hC hcq (hq.ext h) hg)
 obtain ⟨f, hfe⟩ : ∃ f : Nat → Nat, f = fun k => dotG (fun j => xs.getD (k / C * K + j) 0) (fun j => ys.getD (j * C + k % C) 0) K := ⟨_, rfl⟩
 have HF0 := hid (fun i j (hj : j < C) => show f (i * C + j) = dotG (fun k => xs.getD (i * K + k) 0) (fun k => ys.getD (k * C + j) 0) K by rw [hfe]; simp only; rw [(div_mod_at hj).1, (div_mod_at hj).2])
 have HT := hid (show mmX R K C xs ys = ntab (R * C) f by rw [hfe]; rfl)
 have HRC : R * C ≤ 256 := Nat.mul_le_mul hR hC
 have HCK : C * K ≤ 256 := Nat.mul_le_mul hC hK
 have Hta := hid (fun c j hc hj => turnX_at (K := K) (C := C) (ys := ys) (c := c) (j := j) hc hj)
 have Htl : Hid ((turnX K C ys).length = C * K) := ntab_len _ _
 rw [HT.out]
 clear hfe hx hn hy hm hp hf hq hg hcp hcq
 obtain ⟨W0, hW0⟩ : ∃ W0, W0 = (((w.alloc (.cells #[.int .i64 R, .int .i64 K, .slice p n cp] 37)).alloc (.cells #[.int .i64 K, .int .i64 C, .slice q m cq] 37)).alloc (.cells #[.int .i64 0, .int .i64 0, .slice none 0 0] 37)).alloc (.cells #[.int .i64 R, .int .i64 C, .slice none 0 0] 37) := ⟨_, rfl⟩
 obtain ⟨W', hW'⟩ : ∃ W', W' = ((w.alloc (.cells #[.int .i64 R, .int .i64 K, .slice p n cp] 37)).alloc (.cells #[.int .i64 K, .int .i64 C, .slice q m cq] 37)).alloc (.cells #[.int .i64 0, .int .i64 0, .slice none 0 0] 37) := ⟨_, rfl⟩
 obtain ⟨E', s0, b0, b1, b2⟩ := box3 hW'
 have e4 : Ext W' W0 := by rw [hW0, ← hW']; exact Ext.alloc _ _
 have b0 : HB W0 w.heap.size #[.int .i64 R, .int .i64 K, .slice p n cp] 37 := HB.ext b0 e4
 have b1 : HB W0 (w.heap.size + 1) #[.int .i64 K, .int .i64 C, .slice q m cq] 37 := HB.ext b1 e4
 have b2 : HB W0 (w.heap.size + 1 + 1) #[.int .i64 0, .int .i64 0, .slice none 0 0] 37 := HB.ext b2 e4
 have b3 : HB W0 (w.heap.size + 1 + 1 + 1) #[.int .i64 R, .int .i64 C, .slice none 0 0] 37 := by
  have h := HB.new W' #[.int .i64 R, .int .i64 C, .slice none 0 0] 37
  rw [s0] at h
  rw [hW0, ← hW']
  exact h
 have E0 := E'.trans e4
 have hs0 : W0.heap.size = w.heap.size + 4 := by rw [hW0, ← hW']; simp [s0]
 clear hW' E' e4 s0
 obtain ⟨L, hL⟩ : ∃ L, L = w.heap.size + 1 := ⟨_, rfl⟩
 obtain ⟨N, hN⟩ : ∃ N, N = w.heap.size + 1 + 1 := ⟨_, rfl⟩
 obtain ⟨M, hM⟩ : ∃ M, M = w.heap.size + 1 + 1 + 1 := ⟨_, rfl⟩
 rw [← hL] at b1
 rw [← hN] at b2
 rw [← hM] at b3
 go_enter Tryz.func122, Tryz.ntmps122
 go_wp2_with fail
 rw [← hW0, ← hM, ← hN, ← hL]
 have l1 : w.heap.size < L := by omega
 have l2 : L < N := by omega
 have l3 : N < M := by omega
 have hs1 : M < W0.heap.size := by omega
 clear hW0 hM hN hL hs0
 refine (T.out W0 E0).mono ?_
 rintro e w1 ⟨q2, c2, us2, rfl, own2, hf2, e1⟩
 rw [Htl.out] at own2 ⊢
 generalize turnX K C ys = bt at *
 obtain ⟨W1, hW1⟩ : ∃ W1, W1 = w1.alloc (.cells #[.int .i64 C, .int .i64 K, .slice q2 (C * K) c2] 37) := ⟨_, rfl⟩
 have b4 : HB W1 w1.heap.size #[.int .i64 C, .int .i64 K, .slice q2 (C * K) c2] 37 := by rw [hW1]; exact HB.new _ _ _
 have e2 : Ext w1 W1 := by rw [hW1]; exact Ext.alloc _ _
 have hs4 := e1.size
 obtain ⟨T4, hT4⟩ : ∃ T4, T4 = w1.heap.size := ⟨_, rfl⟩
 rw [← hT4] at b4
 have l4 : M < T4 := by omega
 have k0 := ((b0.ext e1).ext e2).cell 0 rfl
 have k1 := ((b1.ext e1).ext e2).cell 1 rfl
 have cs2 := own_Cs own2
 have hc2 := (own_cap own2).1
 have hBrow : Hid (∀ j, j < C → ∃ (ls : List Value) (zs : List Nat), (∀ W, Chg (fun b => b = M) w1 W → Cs W (subp q2 1 (j * K) c2) ls) ∧ F32s ls zs ∧ zs.length = K ∧ ∀ k, k < K → zs.getD k 0 = ys.getD (k * C + j) 0) := fun j hj =>
  ⟨_, rowT bt K j, fun W h => row_cs (i := j) (C := K) (cp := c2) (own_Cs (own_chgB own2 h (fun b hb => by omega))) (by have := row_le (c := K) hj; omega), hf2.part _ _, rowT_len Htl.out hj, fun k hk => (rowT_at Htl.out hj hk).trans (Hta.out j k hj hk)⟩
 have BT2 := hid (BT.out q2 (C * K) c2 rfl hc2)
 generalize hCK : C * K = ck at *
 have HCKe := hid hCK
 clear hCK
 rw [hW1] at k0 k1
 go_wp2
 rw [← hW1, ← hT4]
 clear hW1 k0 k1
 have b0 := (b0.ext e1).ext e2
 have b1 := (b1.ext e1).ext e2
 have b2 := (b2.ext e1).ext e2
 have b3 := (b3.ext e1).ext e2
 have X1 := hid (E0.trans e1)
 have lT : T4 ≤ w1.heap.size := by omega
 have lT' : w1.heap.size ≤ T4 := by omega
 clear hT4
 have C0 : Chg (fun b => b = M) w1 W1 := .of_ext e2
 clear e2 e1 E0 own2 cs2 hf2
 go_loopw [20] (fun iv wr => ∃ (i : Nat) (vs : List Value) (q' : Option Addr) (cq' : Nat), i ≤ R ∧ iv = .int .i64 (i : Int) ∧ HB wr M #[.int .i64 R, .int .i64 C, .slice q' (i * C) cq'] 37 ∧ HB wr N #[.int .i64 0, .int .i64 0, .slice none 0 0] 37 ∧ HB wr w.heap.size #[.int .i64 R, .int .i64 K, .slice p n cp] 37 ∧ HB wr L #[.int .i64 K, .int .i64 C, .slice q m cq] 37 ∧ HB wr T4 #[.int .i64 C, .int .i64 K, .slice q2 ck c2] 37 ∧ wr.ownsRow T4 48 1 (.slice q' (i * C) cq') (i * C) vs ∧ Hid (F32s vs (ntab (i * C) f)) ∧ Chg (fun b => b = M) w1 wr) (fun iv _ => R - (intOf iv).toNat)
 case atStart => exact ⟨0, [], none, 0, by omega, rfl, by rw [Nat.zero_mul]; exact b3, b2, b0, b1, b4, by rw [Nat.zero_mul]; exact own_nil0, by rw [Nat.zero_mul]; exact F32s.nil, C0⟩
 case round =>
  clear b3 b2 b1 b0 b4 C0
  obtain ⟨i, vs, q', cq', hi, rfl, b3, b2, b0, b1, b4, own, HV, he⟩ := hrel
  obtain ⟨A, hA⟩ : ∃ A, A = i * C := ⟨_, rfl⟩
  rw [← hA] at b3 own HV
  by_cases hlt : i < R
  · have hAR : (i + 1) * C = A + C := by rw [Nat.add_mul, hA]; omega
    have hA2 : A + C ≤ 256 := by have := Nat.mul_le_mul_right C (show i + 1 ≤ R by omega); omega
    have HA := hid hA
    have HAR := hid hAR
    clear hA hAR
    have y1 := b1.cell 1 rfl
    go_wp2
    clear y1
    go_loopw [25] (fun jv wq => ∃ (j : Nat) (vs : List Value) (q' : Option Addr) (cq' : Nat), j ≤ C ∧ jv = .int .i64 (j : Int) ∧ HB wq M #[.int .i64 R, .int .i64 C, .slice q' (A + j) cq'] 37 ∧ HB wq N #[.int .i64 0, .int .i64 0, .slice none 0 0] 37 ∧ HB wq w.heap.size #[.int .i64 R, .int .i64 K, .slice p n cp] 37 ∧ HB wq L #[.int .i64 K, .int .i64 C, .slice q m cq] 37 ∧ HB wq T4 #[.int .i64 C, .int .i64 K, .slice q2 ck c2] 37 ∧ wq.ownsRow T4 48 1 (.slice q' (A + j) cq') (A + j) vs ∧ Hid (F32s vs (ntab (A + j) f)) ∧ Chg (fun b => b = M) w1 wq) (fun jv _ => C - (intOf jv).toNat)
    case atStart => exact ⟨0, vs, q', cq', by omega, rfl, b3, b2, b0, b1, b4, own, HV, he⟩
    case round =>
     clear b3 b2 b1 b0 b4 own HV he
     obtain ⟨j, vs, q', cq', hj, rfl, b3, b2, b0, b1, b4, own, HV, he⟩ := hrel
     by_cases hlt2 : j < C
     · have eD := Ext.drew wr
       have c3 := b3.ext eD
       have c2' := b2.ext eD
       have c1 := b1.ext eD
       have c0 := b0.ext eD
       have c4 := b4.ext eD
       have y2 := c3.cell 2 rfl
       have z0 := c0.cell 0 rfl; have z1 := c0.cell 1 rfl; have z2 := c0.cell 2 rfl
       have x0 := c4.cell 0 rfl; have x1 := c4.cell 1 rfl; have x2 := c4.cell 2 rfl
       have o1 := own_ext own eD
       have hC1 : ∀ W, Ext wr.drew W → Chg (fun b => b = M) w1 W := fun W h => he.trans (.of_ext (eD.trans h))
       have hX1 : ∀ W, Ext wr.drew W → Ext w W := fun W h => X1.out.chg (hC1 W h) (fun b hb => by omega)
       obtain ⟨F, hF⟩ : ∃ F : Option Tmp → World → Value → Prop, F = fun d _ u => match d with | some 33 => u = .slice (subp p 1 (i * K) cp) K (cp - i * K) | some 36 => u = .slice (subp q2 1 (j * K) c2) K (c2 - j * K) | _ => ∃ b, u = .float .f32 b ∧ cn .f32 b = f (A + j) := ⟨_, rfl⟩
       have HF := hid hF
       obtain ⟨ls, zs, r2, r3, r4, r5⟩ := hRow.out i hlt
       obtain ⟨ls', zs', r2', r3', r4', r5'⟩ := hBrow.out j hlt2
       have hval : Hid (dotG (fun k => zs.getD k 0) (fun k => zs'.getD k 0) K = f (A + j)) := by
        have h1 := dotG_congr (f := fun k => zs.getD k 0) (f' := fun k => xs.getD (i * K + k) 0) (g := fun k => zs'.getD k 0) (g' := fun k => ys.getD (k * C + j) 0) (n := K) (fun k hk => r5 k hk) (fun k hk => r5' k hk)
        rw [Hid, h1, HA.out, HF0.out i j hlt2]
       have hdot := hid (fun W (h : Ext wr.drew W) => dot_any (subp p 1 (i * K) cp) (subp q2 1 (j * K) c2) K (cp - i * K) K (c2 - j * K) ls ls' zs zs' W r4 r4' (Nat.le_refl _) (by unfold maxLen; omega) (r2 W (hX1 W h)) r3 (r2' W (hC1 W h)) r3')
       rw [hval.out] at hdot
       have hb1 := hid (fun W (h : Ext wr.drew W) => B.out i hlt W (hX1 W h))
       have hb2 := hid (fun W => BT2.out j hlt2 W)
       clear hF r2 r3 r4 r5 r2' r3' r4' r5' hval hC1 hX1
       go_wp2_with fail
       refine wp_region_xt 11 (F := F) (by kernel_rfl) (by kernel_rfl) (by kernel_rfl) (by kernel_rfl) (by kernel_rfl) ?_
       intro wf hwf
       simp only [List.take_succ_cons, List.take_zero, List.drop_succ_cons, List.drop_zero]
       repeat (first
        | (refine x_skip rfl ?_; simp only [Act.put, ev_tmp, pu1, pu2, pu3, pu4, pu5])
        | (refine x_mv rfl rfl rfl ?_; simp only [Act.put, ev_tmp, pu1, pu2, pu3, pu4, pu5])
        | (refine x_as rfl rfl rfl ?_; simp only [Act.put, ev_tmp, pu1, pu2, pu3, pu4, pu5])
        | ((with_reducible show wpX _ _ _ _ _ _ (Oper.mk _ (Op.call _) _ _ _ _ :: _) _); refine x_callf (f := 124) (args := #[.agg #[.int .i64 R, .int .i64 K, .slice p n cp], .int .i64 i]) rfl rfl Tryz.func124 rfl (by kernel_rfl) ?_ ?_ ?_; (focus (simp [Act.eval]; done)); (focus (intro w1 hw1; exact (by rw [HF.out]; exact (hb1.out w1 hw1).mono fun e w3 h => ⟨_, h.1, h.2, rfl⟩))); rintro u w3 e3 e4 hu; simp only [HF.out] at hu; subst hu; simp only [Act.put, ev_tmp, pu1, pu2, pu3, pu4, pu5])
        | ((with_reducible show wpX _ _ _ _ _ _ (Oper.mk _ (Op.call _) _ _ _ _ :: _) _); refine x_callf (f := 124) (args := #[.agg #[.int .i64 C, .int .i64 K, .slice q2 ck c2], .int .i64 j]) rfl rfl Tryz.func124 rfl (by kernel_rfl) ?_ ?_ ?_; (focus (simp [Act.eval]; done)); (focus (intro w1 hw1; exact (by rw [HF.out]; exact (hb2.out w1).mono fun e w3 h => ⟨_, h.1, h.2, rfl⟩))); rintro u w3 e3 e4 hu; simp only [HF.out] at hu; subst hu; simp only [Act.put, ev_tmp, pu1, pu2, pu3, pu4, pu5])
        | (refine y_callv (args := #[.slice (subp p 1 (i * K) cp) K (cp - i * K), .slice (subp q2 1 (j * K) c2) K (c2 - j * K)]) (cap := #[]) rfl rfl rfl (enter_fn Tryz.func123 rfl (by kernel_rfl)) ?_ ?_ ?_; (focus (simp [Act.eval]; done)); (focus (intro w1 hw1; rw [HF.out]; exact (hdot.out w1 hw1).mono fun e w3 ⟨b, h1, h2, h3⟩ => ⟨_, h1, h3, b, rfl, h2⟩)); rintro u wa wb e0 e3 e4 hu; simp only [HF.out] at hu; obtain ⟨r1, rfl, G1⟩ := hu; have G1 := hid G1; simp only [Act.put, ev_tmp, pu1, pu2, pu3, pu4, pu5])
        | (refine x_build1 (u := .float .f32 r1) rfl rfl rfl rfl ?_; intro g7 hg7 hg7' hc7; simp only [Act.put, ev_tmp, pu1, pu2, pu3, pu4, pu5])
        | (refine x_run rfl fun K hK w1 hw1 => ?_; have k0 := hw1.cell (y2); have k1 := hw1.cell (z0); have k2 := hw1.cell (z1); have k3 := hw1.cell (z2); have k4 := hw1.cell (x0); have k5 := hw1.cell (x1); have k6 := hw1.cell (x2); go_simp; refine hK _ ?_; clear hK K k0 k1 k2 k3 k4 k5 k6 hw1 w1))
       refine x_nil ?_
       have d3 := c3.ext hwf
       have d2 := c2'.ext hwf
       have d1 := c1.ext hwf
       have d0 := c0.ext hwf
       have d4 := c4.ext hwf
       have o2 := own_ext o1 hwf
       have l2 := d3.cell 2 rfl
       have f2 := d3.froz 2
       have hsz : Chg (fun b => b = M) w1 wf := he.trans (.of_ext (eD.trans hwf))
       have hs2 := hsz.size
       clear y2 z0 z1 z2 x0 x1 x2
       go_wp2_with ((with_reducible show wpList _ _ _ (Oper.mk _ (Op.call _) _ _ _ _ :: _) _ _); refine wl_app1s rfl rfl rfl rfl o2 hc7 rfl (by simp [Value.cells, Value.oneCell']) (by unfold maxLen; omega) (by omega) (by omega) ?_; intro g9 c9 w9 own9 gr9 hg9; have d5 := d3.chg (Chg.of_grown gr9) (fun h => own_neHB o2 d3 (by decide) _ h.symm rfl); have l3 := d5.cell 2 rfl; have f3 := d5.froz 2)
       go_roundw
       case rel =>
        have hG := Chg.of_grown gr9
        have hch := chg_cell w9 M 2 (.slice (some ⟨g9, 0, none⟩) (A + j + 1) c9)
        exact ⟨j + 1, _, some ⟨g9, 0, none⟩, c9, by omega, by go_num, d5.set 2 _, (d2.chg hG (fun h => own_neHB o2 d2 (by decide) _ h.symm rfl)).chg hch (fun h => by omega), (d0.chg hG (fun h => own_neHB o2 d0 (by decide) _ h.symm rfl)).chg hch (fun h => by omega), (d1.chg hG (fun h => own_neHB o2 d1 (by decide) _ h.symm rfl)).chg hch (fun h => by omega), (d4.chg hG (fun h => own_neHB o2 d4 (by decide) _ h.symm rfl)).chg hch (fun h => by omega),
         ownsRow_chg own9 hch (fun k hk hs => own_neHB own9 d5 (by decide) k hk hs), f32s_snoc HV.out G1.out, (hsz.new hG (fun b hb => .inr (by have := own_le o2 b hb.symm; omega))).new hch (fun b hb => .inl hb)⟩
       case measure => simp [intOf]; omega
     · obtain rfl : j = C := by omega
       go_wp2
       go_roundw
       case rel => exact ⟨i + 1, vs, q', cq', by omega, by go_num, by rw [HAR.out]; exact b3, b2, b0, b1, b4, by rw [HAR.out]; exact own, by rw [HAR.out]; exact HV, he⟩
       case measure => simp [intOf]; omega
  · obtain rfl : i = R := by omega
    rw [← hA]
    have y0 := b3.cell 0 rfl; have y1 := b3.cell 1 rfl; have y2 := b3.cell 2 rfl
    have n0 := b2.cell 0 rfl; have n1 := b2.cell 1 rfl; have n2 := b2.cell 2 rfl
    have m0 := b2.froz 0; have m1 := b2.froz 1; have m2 := b2.froz 2
    have HA := hid hA
    clear hA
    go_wp2
    refine bodyPost_ret (v := .agg #[.int .i64 i, .int .i64 C, .slice q' A cq']) (by simp [results, Tryz.results122, go_sem, n0, n1, n2, m0, m1, m2]) rfl ?_
    obtain rfl := HA.out
    have hE : Ext w wr := X1.out.chg he (fun k hk => by omega)
    exact RetTen.of (ntab_len _ _) (own_base (own_chgB (S := fun k => k = N) own (by (repeat (first | with_reducible exact Chg.refl _ _ | (with_reducible exact Chg.of_ext (by with_reducible assumption)) | with_reducible assumption | ((with_reducible refine Chg.setCell ?_ ?_ _); rotate_left; focus (first | (simp; done) | (simp; omega))) | (with_reducible refine Chg.alloc ?_ _) | (with_reducible refine Chg.drew ?_) | (with_reducible refine Chg.trans ?_ (Chg.of_ext (by with_reducible assumption)))))) (fun k hk => by omega)) (by omega)) HV.out rfl (hE.chg (S := fun k => k = N) (by (repeat (first | with_reducible exact Chg.refl _ _ | (with_reducible exact Chg.of_ext (by with_reducible assumption)) | with_reducible assumption | ((with_reducible refine Chg.setCell ?_ ?_ _); rotate_left; focus (first | (simp; done) | (simp; omega))) | (with_reducible refine Chg.alloc ?_ _) | (with_reducible refine Chg.drew ?_) | (with_reducible refine Chg.trans ?_ (Chg.of_ext (by with_reducible assumption)))))) (fun k hk => by omega))
set_option maxRecDepth 100000 in
set_option maxHeartbeats 4000000 in
theorem matMul_any (R K C : Nat) (p q : Option Addr) (n cp m cq : Nat) (us vs : List Value) (xs ys : List Nat) (w : World) (hx : xs.length = n) (hn : n = R * K) (hy : ys.length = m) (hm : m = K * C) (hR : R ≤ 16) (hK : K ≤ 16) (hC : C ≤ 16) (hcp : n ≤ cp) (hcq : m ≤ cq)
 (hp : Cs w p us) (hf : F32s us xs) (hq : Cs w q vs) (hg : F32s vs ys) :
 Calls Tryz.prog 108 #[.agg #[.int .i64 R, .int .i64 K, .slice p n cp], .agg #[.int .i64 K, .int .i64 C, .slice q m cq]] w (RetTen w R C (mmX R K C xs ys)) := by
 obtain ⟨W0, hW0⟩ : ∃ W0, W0 = ((w.alloc (.cells #[.int .i64 R, .int .i64 K, .slice p n cp] 37)).alloc (.cells #[.int .i64 K, .int .i64 C, .slice q m cq] 37)).alloc (.cells #[.int .i64 0, .int .i64 0, .slice none 0 0] 37) := ⟨_, rfl⟩
 obtain ⟨E0, s0, b0, b1, b2⟩ := box3 hW0
 have b2 : HB W0 (w.heap.size + 1 + 1) #[.int .i64 0, .int .i64 0, .slice none 0 0] 37 := b2
 have k := hid (products_any R K C p q n cp m cq us vs xs ys W0 hx hn hy hm hR hK hC hcp hcq (hp.ext E0) hf (hq.ext E0) hg)
 have hl : Hid ((mmX R K C xs ys).length = R * C) := ntab_len _ _
 generalize mmX R K C xs ys = zs at *
 clear b0 b1 hx hn hy hm hp hf hq hg hcp hcq
 go_enter Tryz.func108, Tryz.ntmps108
 go_wp2_with fail
 rw [← hW0]
 clear hW0
 refine k.out.mono ?_
 rintro e w1 ⟨q, k, ws, rfl, own, hf3, e1⟩
 generalize hz : zs.length = z at *
 have HZ := hid hz
 clear hz
 have d2 := b2.ext e1
 have n0 := d2.cell 0 rfl; have n1 := d2.cell 1 rfl; have n2 := d2.cell 2 rfl
 have m0 := d2.froz 0; have m1 := d2.froz 1; have m2 := d2.froz 2
 go_wp2
 refine bodyPost_ret (v := .agg #[.int .i64 R, .int .i64 C, .slice q z k]) (by simp [results, Tryz.results108, go_sem, n0, n1, n2, m0, m1, m2]) rfl ?_
 exact RetTen.of HZ.out (own_base (own_chgB (S := fun k => k = w.heap.size + 1 + 1) own (by (repeat (first | with_reducible exact Chg.refl _ _ | (with_reducible exact Chg.of_ext (by with_reducible assumption)) | with_reducible assumption | ((with_reducible refine Chg.setCell ?_ ?_ _); rotate_left; focus (first | (simp; done) | (simp; omega))) | (with_reducible refine Chg.alloc ?_ _) | (with_reducible refine Chg.drew ?_) | (with_reducible refine Chg.trans ?_ (Chg.of_ext (by with_reducible assumption)))))) (fun k hk => by omega)) (by omega)) hf3 rfl (Ext.chg (S := fun k => k = w.heap.size + 1 + 1) (E0.trans e1) (by (repeat (first | with_reducible exact Chg.refl _ _ | (with_reducible exact Chg.of_ext (by with_reducible assumption)) | with_reducible assumption | ((with_reducible refine Chg.setCell ?_ ?_ _); rotate_left; focus (first | (simp; done) | (simp; omega))) | (with_reducible refine Chg.alloc ?_ _) | (with_reducible refine Chg.drew ?_) | (with_reducible refine Chg.trans ?_ (Chg.of_ext (by with_reducible assumption)))))) (fun k hk => by omega))
theorem made_flts (n : Nat) : (madeCells (Value.float .f32 0).cells (n * 1)).toList = List.replicate n (Value.float .f32 0) := by
 refine List.ext_getElem ?_ fun i h1 h2 => ?_
 · simp [madeCells]
 · simp [madeCells] at h1 h2 ⊢
   simp [Value.cells, Nat.mod_one]
theorem f32s_zeros {n : Nat} {f : Nat → Nat} (h : ∀ i, i < n → f i = 0) : F32s (List.replicate n (Value.float .f32 0)) (ntab n f) := by
 refine ⟨by simp [ntab_len], fun i hi => ?_⟩
 rw [ntab_len] at hi
 exact ⟨0, by simp [hi], by rw [ntab_get _ hi, h i hi]; decide +kernel⟩
theorem f32s_set {vs : List Value} {n k b : Nat} {f g : Nat → Nat} (h : F32s vs (ntab n f)) (hk : k < n) (hb : cn .f32 b = g k) (hg : ∀ j, j < n → j ≠ k → g j = f j) : F32s (vs.set k (.float .f32 b)) (ntab n g) := by
 have hl := h.1
 rw [ntab_len] at hl
 refine ⟨by simp [ntab_len, hl], fun i hi => ?_⟩
 rw [ntab_len] at hi
 by_cases e : i = k
 · subst e
   exact ⟨b, by simp [hl, hi], by rw [hb, ntab_get _ hi]⟩
 · obtain ⟨c, h1, h2⟩ := h.2 i (by rw [ntab_len]; exact hi)
   refine ⟨c, by rw [List.getElem?_set, if_neg (Ne.symm e)]; exact h1, ?_⟩
   rw [h2, ntab_get _ hi, ntab_get _ hi, hg i hi e]
set_option maxRecDepth 100000 in
set_option maxHeartbeats 4000000 in
theorem sumRows_any (r : Int) (C : Nat) (p : Option Addr) (n cp : Nat) (us : List Value) (xs : List Nat) (w : World) (hx : xs.length = n) (hn : n ≤ 1048576) (hC1 : 1 ≤ C) (hC : C ≤ 1048576) (hp : Cs w p us) (hf : F32s us xs) :
 Calls Tryz.prog 115 #[.agg #[.int .i64 r, .int .i64 C, .slice p n cp]] w (RetFl w (sumRX C xs)) := by
 have X := hid hx
 have HR := hid (show sumRX C xs = ntab C (fun j => colG C j xs n) by unfold sumRX; rw [hx])
 obtain ⟨g, hge⟩ : ∃ g : Nat → Nat → Nat, g = fun i j => colG C j xs i := ⟨_, rfl⟩
 have HG0 := hid (fun j => show g 0 j = 0 by rw [hge]; rfl)
 have HG1 := hid (fun i j (h : i % C = j) => show g (i + 1) j = fop .add .f32 (g i j) (xs.getD i 0) by rw [hge]; simp only [colG]; rw [if_pos h])
 have HG2 := hid (fun i j (h : i % C ≠ j) => show g (i + 1) j = g i j by rw [hge]; simp only [colG]; rw [if_neg h])
 have HGn := hid (show (fun j => colG C j xs n) = g n by rw [hge])
 clear hx hge
 rw [HR.out, HGn.out]
 go_enter Tryz.func115, Tryz.ntmps115
 go_wp2_with ((with_reducible show wpList _ _ _ (Oper.mk _ (Op.makeSlice _ _ _) _ _ _ _ :: _) _ _); refine wl_make (w.heap.size + 1) C rfl rfl rfl rfl (by unfold maxLen; omega) (by omega) (by simp) ?_; intro g8 w8 own8 e8; have y2 : w8.cell? ⟨w.heap.size, 2, none⟩ = some (.slice p n cp) := e8.cell (by simp); have e9 : Ext w w8 := (Ext.alloc _ _).trans e8; have y1 : w8.cell? ⟨w.heap.size, 1, none⟩ = some (.int .i64 C) := e8.cell (by simp))
 rw [made_flts] at own8
 go_loopw [13] (fun iv wr => ∃ (i : Nat) (vs : List Value), i ≤ n ∧ iv = .int .i64 (i : Int) ∧ wr.ownsRow (w.heap.size + 1) 48 1 (.slice (some ⟨g8, 0, none⟩) C C) C vs ∧ Hid (F32s vs (ntab C (g i))) ∧ wr.cell? ⟨w.heap.size, 1, none⟩ = some (.int .i64 C) ∧ Ext w wr) (fun iv _ => n - (intOf iv).toNat)
 case atStart => exact ⟨0, _, by omega, rfl, own8, f32s_zeros (fun i hi => HG0.out i), y1, e9⟩
 case round =>
  clear y1 y2 e9 e8 own8
  obtain ⟨i, vs, hi, rfl, own, HV, y1, he⟩ := hrel
  have hB := he.size
  by_cases hlt : i < n
  · have k1 := hp.ext he
    have k2 := own_Cs own
    obtain ⟨f, hfe⟩ : ∃ f, f = i % C := ⟨_, rfl⟩
    have hfC : f < C := by rw [hfe]; exact Nat.mod_lt _ (by omega)
    have hmod : ((i : Int) % (C : Int)) = (f : Int) := by rw [hfe, Int.natCast_emod]
    have hz : ¬ ((C : Int) = 0) := by omega
    have Hfe := hid hfe
    have HL := hid (ntab_len C (g i))
    clear hfe
    go_wp2_with (first | ((with_reducible show wpList _ _ _ (Oper.mk _ (Op.indexAddr _ _ _) _ _ _ _ :: Oper.mk _ (Op.load _ _) _ _ _ _ :: _) _ _); refine wl_ldF rfl rfl rfl rfl (fun _ => rfl) rfl rfl k1 hf X.out (by omega) (by omega) ?_; intro r1 g1; have G1 := hid g1; clear g1) | ((with_reducible show wpList _ _ _ (Oper.mk _ (Op.indexAddr _ _ _) _ _ _ _ :: Oper.mk _ (Op.load _ _) _ _ _ _ :: _) _ _); refine wl_ldF rfl rfl rfl rfl (fun _ => rfl) rfl rfl k2 HV.out HL.out (by omega) (by omega) ?_; intro r2 g2; have G2 := hid g2; clear g2) | ((with_reducible show wpList _ _ _ (Oper.mk _ (Op.binOp _ _ _ _ _) _ _ _ _ :: _) _ _); refine wl_fop rfl rfl rfl rfl rfl ?_; intro r3 w3 e3 g3; have G3 := hid g3; clear g3; replace own := own_ext own e3; replace he := he.trans e3; replace y1 := e3.cell y1) | ((with_reducible show wpList _ _ _ (Oper.mk _ (Op.indexAddr _ _ _) _ _ _ _ :: Oper.mk _ (Op.store _ _ _) _ _ _ _ :: _) _ _); refine wl_idxstore (u := .float .f32 r3) rfl rfl rfl rfl (fun _ => rfl) rfl rfl (fun _ => rfl) rfl own (by omega) (by omega) ?_; intro w4 own4 g4))
    go_roundw
    case rel =>
     have q1 := G1.out
     simp only [Int.toNat_natCast] at q1
     have q2 : cn .f32 r2 = g i f := by have := G2.out; rw [hmod, Int.toNat_natCast, ntab_get _ hfC] at this; exact this
     have hcell := ((Chg.of_grown g4).cellOf (b := w.heap.size) (by have := lt_of_cell y1; exact this) (fun h => by have := own_le own w.heap.size h.symm; omega)).1 1
     have hg8 := own_le own g8 rfl
     refine ⟨i + 1, _, by omega, by go_num, own4, ?_, hcell.trans y1, he.grown g4 (fun k hk => by have := own_le own k hk; omega)⟩
     rw [Int.toNat_natCast]
     refine f32s_set HV.out hfC (by rw [HG1.out i f Hfe.out.symm, G3.out, q1, q2]) (fun j hj hjf => HG2.out i j (by rw [← Hfe.out]; exact Ne.symm hjf))
    case measure => simp [intOf]; omega
  · obtain rfl : i = n := by omega
    go_wp2
    go_ret
    exact retFl_own (ntab_len _ _) (own_base own (by omega)) HV.out rfl he
set_option maxRecDepth 100000 in
set_option maxHeartbeats 4000000 in
theorem copyTensor_any (r c : Int) (p : Option Addr) (n cp : Nat) (us : List Value) (xs : List Nat) (w : World) (hx : xs.length = n) (hn : n ≤ 1048576) (hc : n ≤ cp) (hp : Cs w p us) (hf : F32s us xs) :
 Calls Tryz.prog 62 #[.agg #[.int .i64 r, .int .i64 c, .slice p n cp]] w (RetTen w r c xs) := by
 obtain ⟨W0, hW0⟩ : ∃ W0, W0 = (w.alloc (.cells #[.int .i64 r, .int .i64 c, .slice p n cp] 37)).alloc (.cells #[.int .i64 0, .int .i64 0, .slice none 0 0] 37) := ⟨_, rfl⟩
 obtain ⟨E0, s0, b0, b1⟩ := box2 hW0
 have b0 : HB W0 w.heap.size #[.int .i64 r, .int .i64 c, .slice p n cp] 37 := b0
 have b1 : HB W0 (w.heap.size + 1) #[.int .i64 0, .int .i64 0, .slice none 0 0] 37 := b1
 have K := hid (cloneF_any p n cp us xs W0 hx (by omega) hc (hp.ext E0) hf)
 have X := hid hx
 clear hx hp hf
 go_enter Tryz.func62, Tryz.ntmps62
 go_wp2_with fail
 rw [← hW0]
 clear hW0
 refine K.out.mono ?_
 rintro e w1 ⟨q, k, ws, rfl, own, hf3, e1⟩
 rw [X.out] at own ⊢
 have d1 := b1.ext e1
 have d0 := b0.ext e1
 have z0 := d0.cell 0 rfl; have z1 := d0.cell 1 rfl; have z2 := d0.cell 2 rfl
 have y0 := d0.froz 0; have y1 := d0.froz 1; have y2 := d0.froz 2
 have n0 := d1.cell 0 rfl; have n1 := d1.cell 1 rfl; have n2 := d1.cell 2 rfl
 have m0 := d1.froz 0; have m1 := d1.froz 1; have m2 := d1.froz 2
 go_wp2
 refine bodyPost_ret (v := .agg #[.int .i64 r, .int .i64 c, .slice q n k]) (by simp [results, Tryz.results62, go_sem, n0, n1, n2, m0, m1, m2]) rfl ?_
 exact RetTen.of X.out (own_base (own_chgB (S := fun k => k = w.heap.size ∨ k = w.heap.size + 1) own (by (repeat (first | with_reducible exact Chg.refl _ _ | (with_reducible exact Chg.of_ext (by with_reducible assumption)) | with_reducible assumption | ((with_reducible refine Chg.setCell ?_ ?_ _); rotate_left; focus (first | (simp; done) | (simp; omega))) | (with_reducible refine Chg.alloc ?_ _) | (with_reducible refine Chg.drew ?_) | (with_reducible refine Chg.trans ?_ (Chg.of_ext (by with_reducible assumption)))))) (fun k hk => by omega)) (by omega)) hf3 rfl (Ext.chg (S := fun k => k = w.heap.size ∨ k = w.heap.size + 1) (E0.trans e1) (by (repeat (first | with_reducible exact Chg.refl _ _ | (with_reducible exact Chg.of_ext (by with_reducible assumption)) | with_reducible assumption | ((with_reducible refine Chg.setCell ?_ ?_ _); rotate_left; focus (first | (simp; done) | (simp; omega))) | (with_reducible refine Chg.alloc ?_ _) | (with_reducible refine Chg.drew ?_) | (with_reducible refine Chg.trans ?_ (Chg.of_ext (by with_reducible assumption)))))) (fun k hk => by omega))
set_option maxRecDepth 100000 in
set_option maxHeartbeats 4000000 in
theorem rowTensor_any (p : Option Addr) (n cp : Nat) (us : List Value) (xs : List Nat) (w : World) (hx : xs.length = n) (hn : n ≤ 1048576) (hc : n ≤ cp) (hp : Cs w p us) (hf : F32s us xs) :
 Calls Tryz.prog 63 #[.slice p n cp] w (RetTen w 1 n xs) := by
 obtain ⟨W0, hW0⟩ : ∃ W0, W0 = w.alloc (.cells #[.int .i64 0, .int .i64 0, .slice none 0 0] 37) := ⟨_, rfl⟩
 have E0 : Ext w W0 := by rw [hW0]; exact Ext.alloc _ _
 have b1 : HB W0 w.heap.size #[.int .i64 0, .int .i64 0, .slice none 0 0] 37 := by rw [hW0]; exact HB.new _ _ _
 have hs0 := b1.lt
 have K := hid (cloneF_any p n cp us xs W0 hx (by omega) hc (hp.ext E0) hf)
 have X := hid hx
 clear hx hp hf
 go_enter Tryz.func63, Tryz.ntmps63
 go_wp2_with fail
 rw [← hW0]
 clear hW0
 refine K.out.mono ?_
 rintro e w1 ⟨q, k, ws, rfl, own, hf3, e1⟩
 rw [X.out] at own ⊢
 have d1 := b1.ext e1
 have n0 := d1.cell 0 rfl; have n1 := d1.cell 1 rfl; have n2 := d1.cell 2 rfl
 have m0 := d1.froz 0; have m1 := d1.froz 1; have m2 := d1.froz 2
 go_wp2
 refine bodyPost_ret (v := .agg #[.int .i64 1, .int .i64 n, .slice q n k]) (by simp [results, Tryz.results63, go_sem, n0, n1, n2, m0, m1, m2]) rfl ?_
 exact RetTen.of X.out (own_base (own_chgB (S := fun k => k = w.heap.size) own (by (repeat (first | with_reducible exact Chg.refl _ _ | (with_reducible exact Chg.of_ext (by with_reducible assumption)) | with_reducible assumption | ((with_reducible refine Chg.setCell ?_ ?_ _); rotate_left; focus (first | (simp; done) | (simp; omega))) | (with_reducible refine Chg.alloc ?_ _) | (with_reducible refine Chg.drew ?_) | (with_reducible refine Chg.trans ?_ (Chg.of_ext (by with_reducible assumption)))))) (fun k hk => by omega)) (by omega)) hf3 rfl (Ext.chg (S := fun k => k = w.heap.size) (E0.trans e1) (by (repeat (first | with_reducible exact Chg.refl _ _ | (with_reducible exact Chg.of_ext (by with_reducible assumption)) | with_reducible assumption | ((with_reducible refine Chg.setCell ?_ ?_ _); rotate_left; focus (first | (simp; done) | (simp; omega))) | (with_reducible refine Chg.alloc ?_ _) | (with_reducible refine Chg.drew ?_) | (with_reducible refine Chg.trans ?_ (Chg.of_ext (by with_reducible assumption)))))) (fun k hk => by omega))
end Go.Proofs.YtlimabbeaimdgaaGreat
