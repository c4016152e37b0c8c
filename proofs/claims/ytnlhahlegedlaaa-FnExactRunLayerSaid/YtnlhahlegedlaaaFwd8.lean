/- The forward pass: one layer. -/
import Derived.Test.YtnlhahlegedlaaaFwd7
import Derived.Test.YtnlhahlegedlaaaLay2
namespace Go.Proofs.Ytnlhahlegedlaaa
set_option linter.unusedSimpArgs false
set_option linter.unusedVariables false
open Go.RowKit

section
variable {P : Program} {w wf : World} {ops : Array Oper} {rest : List Oper} {o : Oper} {a : Act} {Q : Act → Prop} {F : Option Tmp → World → Value → Prop}
/-- A part of a slice, in a region whose order is drawn. -/
theorem x_slice {t e s b : Nat} {z : Value} [T : SlTy P t e s z b] {x lo hi : Operand} (hw : Region.wanted o (yielded ops a.tmps) = true) (ho : o.op = .slice t x (some lo) (some hi) none) {p : Option Addr} {n c : Nat} {k1 k2 : IntKind} {li ui : Int} {l u : Nat}
    (hx : a.eval x = .slice p n c) (hlo : a.eval lo = .int k1 li) (hhi : a.eval hi = .int k2 ui) (h1 : li = l) (h2 : ui = u) (h3 : l ≤ u) (h4 : u ≤ c)
    (h : wpX P ops F w wf Q rest (a.put o.dst (.slice (subp p s l c) (u - l) (c - l)))) : wpX P ops F w wf Q (o :: rest) a := by
  subst h1; subst h2
  exact x_pure hw (fun w1 _ => by simp [execOp, ho, hx, hlo, hhi, run_slice h3 h4]) h
end
theorem F32s.part {us : List Value} {xs : List Nat} (h : F32s us xs) (l u : Nat) : F32s ((us.take u).drop l) ((xs.take u).drop l) := by
  refine ⟨by simp [h.1], fun i hi => ?_⟩
  simp only [List.length_drop, List.length_take] at hi
  obtain ⟨b, h1, h2⟩ := h.2 (l + i) (by omega)
  refine ⟨b, ?_, ?_⟩
  · rw [List.getElem?_drop, List.getElem?_take_of_lt (by omega)]; exact h1
  · rw [h2, List.getD_eq_getElem?_getD, List.getD_eq_getElem?_getD, List.getElem?_drop, List.getElem?_take_of_lt (by omega)]
theorem part_get {xs : List Nat} {l u i : Nat} (h : l + i < u) : ((xs.take u).drop l).getD i 0 = xs.getD (l + i) 0 := by
  rw [List.getD_eq_getElem?_getD, List.getD_eq_getElem?_getD, List.getElem?_drop, List.getElem?_take_of_lt h]

/-- One number that a layer makes: dense, greater than nought, scaled, tangent. -/
def rO (k : Int) (n : Nat) (ws bs xs : List Nat) (j : Nat) : Nat :=
  if k = 0 then fop .add .f32 (dotG (fun t => ws.getD (j * n + t) 0) (fun t => xs.getD t 0) n) (bs.getD j 0)
  else if k = 1 then reluF (xs.getD j 0)
  else if k = 2 then fop .mul .f32 (ws.getD j 0) (xs.getD j 0)
  else tanF (xs.getD j 0)
/-- What a layer makes of a row. -/
def runF (k : Int) (n m : Nat) (ws bs xs : List Nat) : List Nat :=
  if k = 4 then softF xs else if k = 5 then normF ws bs xs else tab m (rO k n ws bs xs)
/-- The counts of a valid layer. -/
theorem lay_of {k : Int} {n m nw nb : Nat} (h : layB k n m nw nb = true) : (k = 0 ∨ k = 1 ∨ k = 2 ∨ k = 3 ∨ k = 4 ∨ k = 5) ∧ 1 ≤ n ∧ n ≤ 8 ∧ 1 ≤ m ∧ m ≤ 8 ∧ (k = 0 ∨ n = m) ∧ (k = 0 → nw = n * m ∧ nb = m) ∧ (k = 2 → n = nw) ∧ (k = 5 → n = nw ∧ n = nb) := by
  unfold layB inB at h
  simp only [Bool.and_eq_true, decide_eq_true_eq, Bool.or_eq_true] at h
  obtain ⟨h1, h2, h3, h4, h5, h6⟩ := h
  refine ⟨by omega, by omega, by omega, by omega, by omega, by omega, ?_, ?_, ?_⟩
  · rintro rfl
    simp only [wCnt, bCnt, if_true] at h5 h6
    exact ⟨by exact_mod_cast h5, by omega⟩
  · rintro rfl
    simp [wCnt] at h5
    omega
  · rintro rfl
    simp [wCnt, bCnt] at h5 h6
    omega

set_option maxRecDepth 100000 in
set_option maxHeartbeats 4000000 in
theorem run_any (k : Int) (n m nw nb : Nat) (p pw pb : Option Addr) (c cw cb : Nat) (us uw ub : List Value) (xs ws bs : List Nat) (w : World) (hk : layB k n m nw nb = true) (hx : xs.length = n) (hw : ws.length = nw) (hb : bs.length = nb) (hp : Cs w p us) (hf : F32s us xs)
    (hpw : Cs w pw uw) (hfw : F32s uw ws) (hpb : Cs w pb ub) (hfb : F32s ub bs) (hcw : nw ≤ cw) :
    Calls Try.prog 109 #[.agg #[.int .i64 k, .int .i64 n, .int .i64 m, .slice pw nw cw, .slice pb nb cb], .slice p n c] w (RetFl w (runF k n m ws bs xs)) := by
  obtain ⟨h0, h1, h2, h3, h4, h5, h6, h7, h8⟩ := lay_of hk
  by_cases k4 : k = 4
  · subst k4
    have hs : runF 4 n m ws bs xs = softF xs := rfl
    rw [hs]
    have C := hid (fun w1 (e1 : Ext w w1) => softmax_any p n c us xs w1 hx h1 (by omega) (hp.ext e1) hf)
    clear hx hw hb hk h0 h1 h2 h3 h4 h5 h6 h7 h8 hs
    go_enter Try.func109, Try.ntmps109
    go_wp2_with ((with_reducible show wpList _ _ _ (Oper.mk _ (Op.box _ _) _ _ _ _ :: _) _ _); refine wl_box (s := shLayer) (cs := [.int .i64 4, .int .i64 n, .int .i64 m, .slice pw nw cw, .slice pb nb cb]) rfl rfl rfl rfl (by simp [Value.oneCell']) ?_; intro b v e1 hlo c1; have f0 := c1.cell 0 _ rfl; simp only [adr_row] at f0)
    refine (C.out _ e1).mono ?_
    rintro e w1 ⟨q, cq, vs, rfl, own0, HF, he⟩
    go_wp2
    go_ret
    exact ⟨q, cq, vs, rfl, own_base own0 e1.size, HF, e1.trans he⟩
  · by_cases k5 : k = 5
    · subst k5
      obtain ⟨rfl, rfl⟩ := h8 rfl
      have hs : runF 5 n m ws bs xs = normF ws bs xs := rfl
      rw [hs]
      have C := hid (fun w1 (e1 : Ext w w1) => norm_any 5 m p pw pb n c cw cb us uw ub xs ws bs w1 hx hw hb (by omega) (hp.ext e1) hf (hpw.ext e1) hfw (hpb.ext e1) hfb)
      clear hx hw hb hk h0 h1 h2 h3 h4 h5 h6 h7 h8 hs k4
      go_enter Try.func109, Try.ntmps109
      go_wp2_with (first | ((with_reducible show wpList _ _ _ (Oper.mk _ (Op.box _ _) _ _ _ _ :: _) _ _); refine wl_box (s := shLayer) (cs := [.int .i64 5, .int .i64 n, .int .i64 m, .slice pw n cw, .slice pb n cb]) rfl rfl rfl rfl (by simp [Value.oneCell']) ?_; intro b v e1 hlo c1; have f0 := c1.cell 0 _ rfl; simp only [adr_row] at f0) | ((with_reducible show wpList _ _ _ (Oper.mk _ (Op.load _ _) _ _ _ _ :: _) _ _); refine wl_ldA (s := shLayer) (cs := [.int .i64 5, .int .i64 n, .int .i64 m, .slice pw n cw, .slice pb n cb]) rfl rfl rfl c1 rfl ?_; simp only [ofCs, Sh.agg, if_true]))
      refine (C.out _ e1).mono ?_
      rintro e w1 ⟨q, cq, vs, rfl, own0, HF, he⟩
      go_wp2
      go_ret
      exact ⟨q, cq, vs, rfl, own_base own0 e1.size, HF, e1.trans he⟩
    · have hs : runF k n m ws bs xs = tab m (rO k n ws bs xs) := by unfold runF; rw [if_neg k4, if_neg k5]
      rw [hs]
      have X := hid hx
      have HW := hid hw
      have HB := hid hb
      have b4 := beq_f k4
      have b5 := beq_f k5
      have hk4 : k = 0 ∨ k = 1 ∨ k = 2 ∨ k = 3 := by omega
      have H6 := hid h6
      have H7 := hid h7
      have H5 := hid h5
      clear hx hw hb hk h0 hs h6 h7 h8 h5
      go_enter Try.func109, Try.ntmps109
      go_wp2_with ((with_reducible show wpList _ _ _ (Oper.mk _ (Op.box _ _) _ _ _ _ :: _) _ _); refine wl_box (s := shLayer) (cs := [.int .i64 k, .int .i64 n, .int .i64 m, .slice pw nw cw, .slice pb nb cb]) rfl rfl rfl rfl (by simp [Value.oneCell']) ?_; intro b v e1 hlo c1; have f0 := c1.cell 0 _ rfl; have f2 := c1.cell 2 _ rfl; simp only [adr_row] at f0 f2; have f2b := (Ext.alloc v (.cells #[] 26)).cell f2)
      have f1 := c1.cell 1 _ rfl
      have f3 := c1.cell 3 _ rfl
      have f4 := c1.cell 4 _ rfl
      simp only [adr_row] at f1 f3 f4
      have hstart : (v.alloc (.cells #[] 26)).ownsRow v.heap.size 26 1 (.slice (some ⟨v.heap.size, 0, none⟩) 0 0) 0 [] := World.ownsRow_made v #[] 0 (Nat.le_refl _) (by decide) rfl
      have e9 := Ext.alloc v (.cells #[] 26)
      replace hp := hp.ext e1
      replace hpw := hpw.ext e1
      replace hpb := hpb.ext e1
      go_loopw [5, 22] (fun ov iv wr => ∃ (i : Nat) (vs : List Value) (q : Option Addr) (cq : Nat), i ≤ m ∧ iv = .int .i64 i ∧ ov = .slice q i cq ∧ wr.ownsRow v.heap.size 26 1 (.slice q i cq) i vs ∧ Hid (F32s vs (tab i (rO k n ws bs xs))) ∧ Ext v wr) (fun _ iv _ => m - (intOf iv).toNat)
      case atStart => exact ⟨0, [], _, _, by omega, rfl, rfl, hstart, F32s.nil, e9⟩
      case round =>
        clear hstart e9
        obtain ⟨i, vs, q, cq, hi, rfl, rfl, own0, HF, he⟩ := hrel
        have hB := he.size
        by_cases hlt : i < m
        · have g0 := he.cell f0
          have g1 := he.cell f1
          have g3 := he.cell f3
          have g4 := he.cell f4
          have hpi := hp.ext he
          rcases hk4 with rfl | rfl | rfl | rfl
          · obtain ⟨hnw, hnb⟩ := H6.out rfl
            obtain ⟨L, hL⟩ : ∃ L : Nat, L = i * n := ⟨_, rfl⟩
            obtain ⟨H, hH⟩ : ∃ H : Nat, H = L + n := ⟨_, rfl⟩
            have hb1 : i * n ≤ 7 * 8 := Nat.mul_le_mul (by omega) (by omega)
            have hb2 : H ≤ nw := by
              rw [hH, hL, hnw, ← Nat.succ_mul, Nat.mul_comm n m]; exact Nat.mul_le_mul_right _ (by omega)
            have m1 : (i : Int) * (n : Int) = (L : Int) := by rw [hL]; push_cast; rfl
            have m2 : ((i : Int) + 1) * (n : Int) = (H : Int) := by rw [Int.add_mul, m1, hH]; push_cast; omega
            have l1 : IntKind.i64.wrap ((i : Int) * (n : Int)) = (L : Int) := by rw [m1]; exact wrap_in _ (by omega) (by omega)
            have l2 : IntKind.i64.wrap (((i : Int) + 1) * (n : Int)) = (H : Int) := by rw [m2]; exact wrap_in _ (by omega) (by omega)
            have l3 : IntKind.i64.wrap ((i : Int) + 1) = (i : Int) + 1 := wrap_in _ (by omega) (by omega)
            obtain ⟨DV, hDV⟩ : ∃ DV, DV = dotG (fun t => ws.getD (i * n + t) 0) (fun t => xs.getD t 0) n := ⟨_, rfl⟩
            have hpw1 := hpw.ext he
            have C := hid (fun w1 (e1 : Ext wr w1) => dot_any (subp pw 1 L cw) p (H - L) (cw - L) n c ((uw.take (H * 1)).drop (L * 1)) us ((ws.take (H * 1)).drop (L * 1)) xs w1 (by simp [HW.out]; omega) X.out (by omega) (by unfold maxLen; omega) ((hpw1.ext e1).sub (by omega) (by omega)) (hfw.part _ _) (hpi.ext e1) hf)
            have hD2 : dotG (fun j => ((ws.take (H * 1)).drop (L * 1)).getD j 0) (fun j => xs.getD j 0) (H - L) = DV := by
              rw [hDV, show H - L = n by omega]
              refine dotG_congr (fun t ht => ?_) (fun t ht => rfl)
              rw [part_get (by omega), ← hL, Nat.mul_one]
            rw [hD2] at C
            have HD := hid hDV
            have HH := hid hH
            have HL := hid hL
            have hbl : i < nb := by omega
            clear hDV hH hL m1 m2 hD2 hb1 hnw hnb
            go_wp2
            obtain ⟨F, hF⟩ : ∃ F : Option Tmp → World → Value → Prop, F = fun _ _ u => ∃ b, u = .float .f32 b ∧ cn .f32 b = DV := ⟨_, rfl⟩
            have HFF := hid hF
            clear hF
            have k0 := Ext.drew wr
            replace g1 := k0.cell g1
            replace g3 := k0.cell g3
            replace g4 := k0.cell g4
            have kb := (hpb.ext he).ext k0
            refine wp_region_xall (F := F) (by kernel_rfl) (by kernel_rfl) (by kernel_rfl) ?_
            intro wf hwf
            repeat (first
              | (refine x_skip rfl ?_; simp only [Act.put, ev_tmp, List.setIfInBounds_toArray, List.set_cons_succ, List.set_cons_zero, List.getD_cons_succ, List.getD_cons_zero])
              | (refine x_mv rfl rfl rfl ?_; simp only [Act.put, ev_tmp, List.setIfInBounds_toArray, List.set_cons_succ, List.set_cons_zero, List.getD_cons_succ, List.getD_cons_zero])
              | (refine x_as rfl rfl rfl ?_; simp only [Act.put, ev_tmp, List.setIfInBounds_toArray, List.set_cons_succ, List.set_cons_zero, List.getD_cons_succ, List.getD_cons_zero])
              | ((with_reducible show wpX _ _ _ _ _ _ (Oper.mk _ (Op.slice _ _ _ _ _) _ _ _ _ :: _) _); refine x_slice rfl rfl rfl rfl rfl (l := L) (u := H) rfl rfl (by have := HH.out; omega) (by omega) ?_; simp only [Act.put, ev_tmp, List.setIfInBounds_toArray, List.set_cons_succ, List.set_cons_zero, List.getD_cons_succ, List.getD_cons_zero])
              | ((with_reducible show wpX _ _ _ _ _ _ (Oper.mk _ (Op.indexAddr _ _ _) _ _ _ _ :: Oper.mk _ (Op.load _ _) _ _ _ _ :: _) _); refine x_ldF rfl rfl (fun _ => rfl) rfl (fun _ => rfl) rfl rfl kb hfb HB.out (by omega) (by omega) ?_; intro r2 q2; have G2 := hid q2; clear q2; simp only [Act.put, ev_tmp, List.setIfInBounds_toArray, List.set_cons_succ, List.set_cons_zero, List.getD_cons_succ, List.getD_cons_zero])
              | ((with_reducible show wpX _ _ _ _ _ _ (Oper.mk _ (Op.binOp _ _ _ _ _) _ _ _ _ :: _) _); refine x_fop rfl rfl rfl rfl rfl ?_; intro r3 q3; have G3 := hid q3; clear q3; simp only [Act.put, ev_tmp, List.setIfInBounds_toArray, List.set_cons_succ, List.set_cons_zero, List.getD_cons_succ, List.getD_cons_zero])
              | ((with_reducible show wpX _ _ _ _ _ _ (Oper.mk _ (Op.call _) _ _ _ _ :: _) _); refine x_callf (f := 176) (args := #[.slice (subp pw 1 L cw) (H - L) (cw - L), .slice p n c]) rfl rfl Try.func176 rfl (by kernel_rfl) ?_ ?_ ?_; (focus (simp [Act.eval]; done)); (focus (intro w1 hw1; exact ((C.out w1 (k0.trans hw1)).mono fun e w3 ⟨b, h1, h2, h3⟩ => ⟨_, h1, h3, by rw [HFF.out]; exact ⟨b, rfl, h2⟩⟩))); rintro u w3 e3 e4 hu; simp only [HFF.out] at hu; obtain ⟨r1, rfl, q1⟩ := hu; have G1 := hid q1; clear q1; simp only [Act.put, ev_tmp, List.setIfInBounds_toArray, List.set_cons_succ, List.set_cons_zero, List.getD_cons_succ, List.getD_cons_zero])
              | (refine x_run rfl fun K hK w1 hw1 => ?_; have k0 := hw1.cell (g1); have k1 := hw1.cell (g3); have k2 := hw1.cell (g4); go_simp; refine hK _ ?_; clear hK K k0 k1 k2 hw1 w1))
            refine x_nil ?_
            have hv : cn .f32 r3 = rO 0 n ws bs xs i := by rw [G3.out, G1.out, G2.out, HD.out, Int.toNat_natCast]; rfl
            have HV3 := hid hv
            clear hv
            replace own0 := own_ext (own_ext own0 k0) hwf
            replace he := (he.trans k0).trans hwf
            have hB := he.size
            go_wp2_with ((with_reducible show wpList _ _ _ (Oper.mk _ (Op.buildSlice _ _ _) _ _ _ _ :: Oper.mk _ (Op.call _) _ _ _ _ :: _) _ _); refine wl_app1b (u := .float .f32 r3) rfl rfl rfl rfl rfl rfl rfl (fun _ => rfl) (fun _ => rfl) own0 (by unfold maxLen; omega) (by omega) (by omega) ?_; intro g c w4 own4 g4 hg4)
            go_roundw
            case rel =>
              have own5 : w4.ownsRow v.heap.size 26 1 (.slice (some ⟨g, 0, none⟩) (i + 1) c) (i + 1) (vs ++ [.float .f32 r3]) := own4
              exact ⟨i + 1, vs ++ [.float .f32 r3], _, _, by omega, by go_num, rfl, own5, by rw [Hid]; exact HF.out.push HV3.out, he.grown g4 (fun k hk => own_le own0 k hk)⟩
            case measure => simp [intOf]; omega
          · go_wp2_with (first | ((with_reducible show wpList _ _ _ (Oper.mk _ (Op.indexAddr _ _ _) _ _ _ _ :: Oper.mk _ (Op.load _ _) _ _ _ _ :: _) _ _); refine wl_ldF rfl rfl rfl rfl (fun _ => rfl) rfl rfl hpi hf X.out (by omega) (by have := H5.out; omega) ?_; intro r2 q2; have G2 := hid q2; clear q2) | ((with_reducible show wpList _ _ _ (Oper.mk _ (Op.call _) _ _ _ _ :: _) _ _); fail))
            refine (relu_any r2 _).mono ?_
            rintro e w3 ⟨r3, rfl, q3, e3⟩
            have hv : cn .f32 r3 = rO 1 n ws bs xs i := by rw [q3, G2.out, Int.toNat_natCast]; rfl
            have HV3 := hid hv
            clear hv q3
            replace own0 := own_ext own0 e3
            replace he := he.trans e3
            have hB := he.size
            go_wp2_with ((with_reducible show wpList _ _ _ (Oper.mk _ (Op.buildSlice _ _ _) _ _ _ _ :: Oper.mk _ (Op.call _) _ _ _ _ :: _) _ _); refine wl_app1b (u := .float .f32 r3) rfl rfl rfl rfl rfl rfl rfl (fun _ => rfl) (fun _ => rfl) own0 (by unfold maxLen; omega) (by omega) (by omega) ?_; intro g c w4 own4 g4 hg4)
            go_roundw
            case rel =>
              have own5 : w4.ownsRow v.heap.size 26 1 (.slice (some ⟨g, 0, none⟩) (i + 1) c) (i + 1) (vs ++ [.float .f32 r3]) := own4
              exact ⟨i + 1, vs ++ [.float .f32 r3], _, _, by omega, by go_num, rfl, own5, by rw [Hid]; exact HF.out.push HV3.out, he.grown g4 (fun k hk => own_le own0 k hk)⟩
            case measure => simp [intOf]; omega
          · have hwl : i < nw := by have := H5.out; have := H7.out rfl; omega
            have hxl : i < n := by have := H5.out; omega
            have hpw1 := hpw.ext he
            go_wp2
            have k0 := Ext.drew wr
            replace g3 := k0.cell g3
            have ka := hpi.ext k0
            have kb := hpw1.ext k0
            refine wp_region_xall (F := fun _ _ _ => False) (by kernel_rfl) (by kernel_rfl) (by kernel_rfl) ?_
            intro wf hwf
            repeat (first
              | (refine x_skip rfl ?_; simp only [Act.put, ev_tmp, List.setIfInBounds_toArray, List.set_cons_succ, List.set_cons_zero, List.getD_cons_succ, List.getD_cons_zero])
              | (refine x_mv rfl rfl rfl ?_; simp only [Act.put, ev_tmp, List.setIfInBounds_toArray, List.set_cons_succ, List.set_cons_zero, List.getD_cons_succ, List.getD_cons_zero])
              | (refine x_as rfl rfl rfl ?_; simp only [Act.put, ev_tmp, List.setIfInBounds_toArray, List.set_cons_succ, List.set_cons_zero, List.getD_cons_succ, List.getD_cons_zero])
              | ((with_reducible show wpX _ _ _ _ _ _ (Oper.mk _ (Op.indexAddr _ _ _) _ _ _ _ :: Oper.mk _ (Op.load _ _) _ _ _ _ :: _) _); refine x_ldF rfl rfl (fun _ => rfl) rfl (fun _ => rfl) rfl rfl kb hfw HW.out (by omega) (by omega) ?_; intro r1 q1; have G1 := hid q1; clear q1; simp only [Act.put, ev_tmp, List.setIfInBounds_toArray, List.set_cons_succ, List.set_cons_zero, List.getD_cons_succ, List.getD_cons_zero])
              | ((with_reducible show wpX _ _ _ _ _ _ (Oper.mk _ (Op.indexAddr _ _ _) _ _ _ _ :: Oper.mk _ (Op.load _ _) _ _ _ _ :: _) _); refine x_ldF rfl rfl (fun _ => rfl) rfl (fun _ => rfl) rfl rfl ka hf X.out (by omega) (by omega) ?_; intro r2 q2; have G2 := hid q2; clear q2; simp only [Act.put, ev_tmp, List.setIfInBounds_toArray, List.set_cons_succ, List.set_cons_zero, List.getD_cons_succ, List.getD_cons_zero])
              | ((with_reducible show wpX _ _ _ _ _ _ (Oper.mk _ (Op.binOp _ _ _ _ _) _ _ _ _ :: _) _); refine x_fop rfl rfl rfl rfl rfl ?_; intro r3 q3; have G3 := hid q3; clear q3; simp only [Act.put, ev_tmp, List.setIfInBounds_toArray, List.set_cons_succ, List.set_cons_zero, List.getD_cons_succ, List.getD_cons_zero])
              | (refine x_run rfl fun K hK w1 hw1 => ?_; have k0 := hw1.cell (g3); go_simp; refine hK _ ?_; clear hK K k0 hw1 w1))
            refine x_nil ?_
            have hv : cn .f32 r3 = rO 2 n ws bs xs i := by rw [G3.out, G1.out, G2.out, Int.toNat_natCast]; rfl
            have HV3 := hid hv
            clear hv
            replace own0 := own_ext (own_ext own0 k0) hwf
            replace he := (he.trans k0).trans hwf
            have hB := he.size
            go_wp2_with ((with_reducible show wpList _ _ _ (Oper.mk _ (Op.buildSlice _ _ _) _ _ _ _ :: Oper.mk _ (Op.call _) _ _ _ _ :: _) _ _); refine wl_app1b (u := .float .f32 r3) rfl rfl rfl rfl rfl rfl rfl (fun _ => rfl) (fun _ => rfl) own0 (by unfold maxLen; omega) (by omega) (by omega) ?_; intro g c w4 own4 g4 hg4)
            go_roundw
            case rel =>
              have own5 : w4.ownsRow v.heap.size 26 1 (.slice (some ⟨g, 0, none⟩) (i + 1) c) (i + 1) (vs ++ [.float .f32 r3]) := own4
              exact ⟨i + 1, vs ++ [.float .f32 r3], _, _, by omega, by go_num, rfl, own5, by rw [Hid]; exact HF.out.push HV3.out, he.grown g4 (fun k hk => own_le own0 k hk)⟩
            case measure => simp [intOf]; omega
          · go_wp2_with (first | ((with_reducible show wpList _ _ _ (Oper.mk _ (Op.indexAddr _ _ _) _ _ _ _ :: Oper.mk _ (Op.load _ _) _ _ _ _ :: _) _ _); refine wl_ldF rfl rfl rfl rfl (fun _ => rfl) rfl rfl hpi hf X.out (by omega) (by have := H5.out; omega) ?_; intro r2 q2; have G2 := hid q2; clear q2) | ((with_reducible show wpList _ _ _ (Oper.mk _ (Op.call _) _ _ _ _ :: _) _ _); fail))
            refine (TanhNumber_any r2 _).mono ?_
            rintro e w3 ⟨r3, rfl, q3, e3⟩
            have hv : cn .f32 r3 = rO 3 n ws bs xs i := by rw [q3, G2.out, Int.toNat_natCast]; rfl
            have HV3 := hid hv
            clear hv q3
            replace own0 := own_ext own0 e3
            replace he := he.trans e3
            have hB := he.size
            go_wp2_with ((with_reducible show wpList _ _ _ (Oper.mk _ (Op.buildSlice _ _ _) _ _ _ _ :: Oper.mk _ (Op.call _) _ _ _ _ :: _) _ _); refine wl_app1b (u := .float .f32 r3) rfl rfl rfl rfl rfl rfl rfl (fun _ => rfl) (fun _ => rfl) own0 (by unfold maxLen; omega) (by omega) (by omega) ?_; intro g c w4 own4 g4 hg4)
            go_roundw
            case rel =>
              have own5 : w4.ownsRow v.heap.size 26 1 (.slice (some ⟨g, 0, none⟩) (i + 1) c) (i + 1) (vs ++ [.float .f32 r3]) := own4
              exact ⟨i + 1, vs ++ [.float .f32 r3], _, _, by omega, by go_num, rfl, own5, by rw [Hid]; exact HF.out.push HV3.out, he.grown g4 (fun k hk => own_le own0 k hk)⟩
            case measure => simp [intOf]; omega
        · obtain rfl : m = i := by omega
          go_wp2
          go_ret
          exact retFl_own (tab_len _ _) (own_base own0 e1.size) HF.out rfl (e1.trans he)
end Go.Proofs.Ytnlhahlegedlaaa
