/- The forward pass: normed numbers. -/
import Derived.Test.YtnlhahlegedlaaaFwd6
namespace Go.Proofs.Ytnlhahlegedlaaa
set_option linter.unusedSimpArgs false
set_option linter.unusedVariables false
open Go.RowKit

section
variable {P : Program} {w : World} {ops : Array Oper} {rest : List Oper} {o : Oper} {a : Act} {Q : Exit → Act → World → Prop}
/-- A store to an element of a row of the call's own. -/
theorem wl_stP {e : Nat} [Cell1 P e] {x y : Operand} (hg : o.guard = none) (ho : o.op = .store e x y)
    {p : Option Addr} {n c B i : Nat} {u : Value} (hx : a.eval x = .pointer (some (adr p i))) (hy : a.eval y = u) (hu1 : u.oneCell' = true) {vs : List Value} (hc : w.ownsRow B e 1 (.slice p n c) n vs) (hn : i < n)
    (h : ∀ w', w'.ownsRow B e 1 (.slice p n c) n (vs.set i u) → w.grownBy w' (Value.slice p n c).ownBlock → wpList P ops Q rest (a.put o.dst undef) w') : wpList P ops Q (o :: rest) a w := by
  obtain ⟨g, rfl⟩ := own_some hc (by omega)
  have hlen : vs.length = n := by have := hc.1; omega
  have hcell : w.cell? (adr (some ⟨g, 0, none⟩) i) = some (vs[i]'(by omega)) := by
    rw [adr_row, hc.cellAt _ (by omega)]; simp [hlen, hn]
  have hfr : w.frozen? (adr (some ⟨g, 0, none⟩) i) = false := by rw [adr_row]; exact hc.frozenAt _
  have hst := hc.stored i u
  rw [← adr_row] at hst
  refine wl_skip hg (w' := w.setCell (adr (some ⟨g, 0, none⟩) i) u) ?_ (h _ hst.1 hst.2)
  simp [execOp, ho, hx, hy, run_store1 hcell hfr hu1]
end

def nM (xs : List Nat) : Nat := fop .quo .f32 (sumG (fun j => xs.getD j 0) xs.length) (floatOfInt .f32 (xs.length : Int))
def nD (xs : List Nat) (i : Nat) : Nat := fop .sub .f32 (xs.getD i 0) (nM xs)
def nR (xs : List Nat) : Nat := rootF (fop .add .f32 (fop .quo .f32 (dotG (nD xs) (nD xs) xs.length) (floatOfInt .f32 (xs.length : Int))) 981467136)
def nO (ws bs xs : List Nat) (i : Nat) : Nat := fop .add .f32 (fop .mul .f32 (fop .quo .f32 (nD xs i) (nR xs)) (ws.getD i 0)) (bs.getD i 0)
def normF (ws bs xs : List Nat) : List Nat := tab xs.length (nO ws bs xs)
theorem cn_near32 (n : Int) : cn .f32 (floatOfInt .f32 n) = floatOfInt .f32 n := cn_nearest .f32 n
theorem cn_eps : cn .f32 981467136 = 981467136 := by decide +kernel

set_option maxRecDepth 100000 in
set_option maxHeartbeats 4000000 in
theorem norm_any (k o : Int) (p pw pb : Option Addr) (n c cw cb : Nat) (us uw ub : List Value) (xs ws bs : List Nat) (w : World) (hx : xs.length = n) (hw : ws.length = n) (hb : bs.length = n) (hn : n ≤ 1073741824) (hp : Cs w p us) (hf : F32s us xs)
    (hpw : Cs w pw uw) (hfw : F32s uw ws) (hpb : Cs w pb ub) (hfb : F32s ub bs) :
    Calls Try.prog 175 #[.agg #[.int .i64 k, .int .i64 n, .int .i64 o, .slice pw n cw, .slice pb n cb], .slice p n c] w (RetFl w (normF ws bs xs)) := by
  have X := hid hx
  have HW := hid hw
  have HB := hid hb
  have hS : normF ws bs xs = tab n (nO ws bs xs) := by unfold normF; rw [hx]
  have HS := hid hS
  have hM : nM xs = fop .quo .f32 (sumG (fun j => xs.getD j 0) n) (floatOfInt .f32 n) := by unfold nM; rw [hx]
  have HM := hid hM
  have hR : nR xs = rootF (fop .add .f32 (fop .quo .f32 (dotG (nD xs) (nD xs) n) (floatOfInt .f32 n)) 981467136) := by unfold nR; rw [hx]
  have HR := hid hR
  have eA := Ext.alloc w (.cells #[.int .i64 k, .int .i64 n, .int .i64 o, .slice pw n cw, .slice pb n cb] 72)
  have ca : ∀ (j : Nat) (v : Value), #[Value.int .i64 k, .int .i64 n, .int .i64 o, .slice pw n cw, .slice pb n cb][j]? = some v → (w.alloc (.cells #[.int .i64 k, .int .i64 n, .int .i64 o, .slice pw n cw, .slice pb n cb] 72)).cell? ⟨w.heap.size, j, none⟩ = some v := fun j v h => by
    unfold World.cell?
    rw [heap_alloc_new]
    simpa using h
  have f3 := ca 3 _ rfl
  have f4 := ca 4 _ rfl
  have C := hid (sumOf_any p n c us xs (w.alloc (.cells #[.int .i64 k, .int .i64 n, .int .i64 o, .slice pw n cw, .slice pb n cb] 72)) hx (by unfold maxLen; omega) (hp.ext eA) hf)
  clear hx hw hb hS hM hR ca
  go_enter Try.func175, Try.ntmps175
  go_wp2_with fail
  refine C.out.mono ?_
  rintro e w1 ⟨r0, rfl, g0, e1⟩
  have G0 := hid g0
  clear g0
  have e0 := eA.trans e1
  replace f3 := e1.cell f3
  replace f4 := e1.cell f4
  clear e1
  go_wp2_with ((with_reducible show wpList _ _ _ (Oper.mk _ (Op.binOp _ _ _ _ _) _ _ _ _ :: _) _ _); refine wl_fop rfl rfl rfl rfl rfl ?_; intro r1 w2 e2 g1; have G1 := hid g1; clear g1)
  have hv : cn .f32 r1 = nM xs := by rw [G1.out, G0.out, cn_near32, HM.out]
  have HV := hid hv
  clear hv
  replace e0 := e0.trans e2
  replace f3 := e2.cell f3
  replace f4 := e2.cell f4
  have hstart : (w2.alloc (.cells #[] 26)).ownsRow w2.heap.size 26 1 (.slice (some ⟨w2.heap.size, 0, none⟩) 0 0) 0 [] := World.ownsRow_made w2 #[] 0 (Nat.le_refl _) (by decide) rfl
  have e9 := Ext.alloc w2 (.cells #[] 26)
  clear e2
  go_loopw [7, 22] (fun ov iv wr => ∃ (i : Nat) (vs : List Value) (q : Option Addr) (cq : Nat), i ≤ n ∧ iv = .int .i64 i ∧ ov = .slice q i cq ∧ wr.ownsRow w2.heap.size 26 1 (.slice q i cq) i vs ∧ Hid (F32s vs (tab i (nD xs))) ∧ Ext w2 wr) (fun _ iv _ => n - (intOf iv).toNat)
  case atStart => exact ⟨0, [], _, _, by omega, rfl, rfl, hstart, F32s.nil, e9⟩
  case round =>
    clear hstart e9
    obtain ⟨i, vs, q, cq, hi, rfl, rfl, own0, HF, he⟩ := hrel
    have hB := he.size
    by_cases hlt : i < n
    · have k1 := hp.ext (e0.trans he)
      go_wp2_with (first | ((with_reducible show wpList _ _ _ (Oper.mk _ (Op.indexAddr _ _ _) _ _ _ _ :: Oper.mk _ (Op.load _ _) _ _ _ _ :: _) _ _); refine wl_ldF rfl rfl rfl rfl (fun _ => rfl) rfl rfl k1 hf X.out (by omega) (by omega) ?_; intro r2 g2; have G2 := hid g2; clear g2) | ((with_reducible show wpList _ _ _ (Oper.mk _ (Op.binOp _ _ _ _ _) _ _ _ _ :: _) _ _); refine wl_fop rfl rfl rfl rfl rfl ?_; intro r3 w3 e3 g3; have G3 := hid g3; clear g3; replace own0 := own_ext own0 e3; replace he := he.trans e3; have hB := he.size) | ((with_reducible show wpList _ _ _ (Oper.mk _ (Op.buildSlice _ _ _) _ _ _ _ :: Oper.mk _ (Op.call _) _ _ _ _ :: _) _ _); refine wl_app1b (u := .float .f32 r3) rfl rfl rfl rfl rfl rfl rfl (fun _ => rfl) (fun _ => rfl) own0 (by unfold maxLen; omega) (by omega) (by omega) ?_; intro g c w4 own4 g4 hg4))
      have hv : cn .f32 r3 = nD xs i := by rw [G3.out, G2.out, HV.out, Int.toNat_natCast]; rfl
      have HV3 := hid hv
      clear hv
      go_roundw
      case rel =>
        have own5 : w4.ownsRow w2.heap.size 26 1 (.slice (some ⟨g, 0, none⟩) (i + 1) c) (i + 1) (vs ++ [.float .f32 r3]) := own4
        exact ⟨i + 1, vs ++ [.float .f32 r3], _, _, by omega, by go_num, rfl, own5, by rw [Hid]; exact HF.out.push HV3.out, he.grown g4 (fun k hk => own_le own0 k hk)⟩
      case measure => simp [intOf]; omega
    · obtain rfl : n = i := by omega
      go_wp2_with fail
      refine (dot_any q q n cq n cq vs vs (tab n (nD xs)) (tab n (nD xs)) _ (tab_len _ _) (tab_len _ _) (Nat.le_refl _) (by unfold maxLen; omega) (own_Cs own0) HF.out (own_Cs own0) HF.out).mono ?_
      rintro e w3 ⟨r3, rfl, g3, e3⟩
      have hv : cn .f32 r3 = dotG (nD xs) (nD xs) n := by rw [g3]; exact dotG_congr (fun i hi => tab_get _ hi) (fun i hi => tab_get _ hi)
      have HV3 := hid hv
      clear hv g3
      replace own0 := own_ext own0 e3
      replace he := he.trans e3
      go_wp2_with ((with_reducible show wpList _ _ _ (Oper.mk _ (Op.binOp _ _ _ _ _) _ _ _ _ :: _) _ _); refine wl_fop rfl rfl rfl rfl rfl ?_; first | (have zz := G4; intro r5 w5 e5 g5; have G5 := hid g5; clear g5 zz; replace own0 := own_ext own0 e5; replace he := he.trans e5) | (intro r4 w4 e4 g4; have G4 := hid g4; clear g4; replace own0 := own_ext own0 e4; replace he := he.trans e4))
      refine (RootNumber_any r5 _).mono ?_
      rintro e w6 ⟨r6, rfl, g6, e6⟩
      have hv : cn .f32 r6 = nR xs := by rw [g6, G5.out, G4.out, HV3.out, cn_near32, cn_eps, HR.out]
      have HV6 := hid hv
      clear hv g6
      replace own0 := own_ext own0 e6
      replace he := he.trans e6
      go_wp2_with fail
      go_loopw [42] (fun iv wr => ∃ (i : Nat) (vs : List Value), i ≤ n ∧ iv = .int .i64 i ∧ wr.ownsRow w2.heap.size 26 1 (.slice q n cq) n vs ∧ Hid (F32s vs (tab n (mix (nO ws bs xs) (nD xs) i))) ∧ Ext w2 wr) (fun iv _ => n - (intOf iv).toNat)
      case atStart => exact ⟨0, vs, by omega, rfl, own0, by rw [tab_mix0]; exact HF.out, he⟩
      case round =>
        clear own0 he HF hB
        obtain ⟨i, vs, hi, rfl, own0, HF, he⟩ := hrel
        have hB := he.size
        by_cases hlt : i < n
        · have HL := hid (tab_len n (mix (nO ws bs xs) (nD xs) i))
          have hg : (tab n (mix (nO ws bs xs) (nD xs) i)).getD i 0 = nD xs i := by rw [tab_get _ hlt]; unfold mix; rw [if_neg (by omega)]
          have HG := hid hg
          have hsome := (own_Cs own0).isS (by have := own0.1; intro h; rw [h] at this; simp at this; omega)
          clear hg
          go_wp2
          replace own0 := own_ext own0 (Ext.drew _)
          replace he := he.trans (Ext.drew _)
          have k1 := own_Cs own0
          have k3 := hpw.ext (e0.trans he)
          have k4 := hpb.ext (e0.trans he)
          have k5 := he.cell f3
          have k6 := he.cell f4
          refine wp_region_xt 21 (F := fun _ _ _ => True) (by kernel_rfl) (by kernel_rfl) (by kernel_rfl) (by kernel_rfl) (by kernel_rfl) ?_
          intro wf hwf
          simp only [List.take_succ_cons, List.take_zero, List.drop_succ_cons, List.drop_zero]
          repeat (first
            | (refine x_skip rfl ?_; simp only [Act.put, ev_tmp, List.setIfInBounds_toArray, List.set_cons_succ, List.set_cons_zero, List.getD_cons_succ, List.getD_cons_zero])
            | (refine x_mv rfl rfl rfl ?_; simp only [Act.put, ev_tmp, List.setIfInBounds_toArray, List.set_cons_succ, List.set_cons_zero, List.getD_cons_succ, List.getD_cons_zero])
            | (refine x_as rfl rfl rfl ?_; simp only [Act.put, ev_tmp, List.setIfInBounds_toArray, List.set_cons_succ, List.set_cons_zero, List.getD_cons_succ, List.getD_cons_zero])
            | ((with_reducible show wpX _ _ _ _ _ _ (Oper.mk _ (Op.indexAddr _ _ _) _ _ _ _ :: Oper.mk _ (Op.load _ _) _ _ _ _ :: _) _); refine x_ldF rfl rfl (fun _ => rfl) rfl (fun _ => rfl) rfl rfl k1 HF.out HL.out (by omega) (by omega) ?_; intro r7 g7; have G7 := hid g7; clear g7; simp only [Act.put, ev_tmp, List.setIfInBounds_toArray, List.set_cons_succ, List.set_cons_zero, List.getD_cons_succ, List.getD_cons_zero])
            | ((with_reducible show wpX _ _ _ _ _ _ (Oper.mk _ (Op.indexAddr _ _ _) _ _ _ _ :: Oper.mk _ (Op.load _ _) _ _ _ _ :: _) _); refine x_ldF rfl rfl (fun _ => rfl) rfl (fun _ => rfl) rfl rfl k3 hfw HW.out (by omega) (by omega) ?_; intro r8 g8; have G8 := hid g8; clear g8; simp only [Act.put, ev_tmp, List.setIfInBounds_toArray, List.set_cons_succ, List.set_cons_zero, List.getD_cons_succ, List.getD_cons_zero])
            | ((with_reducible show wpX _ _ _ _ _ _ (Oper.mk _ (Op.indexAddr _ _ _) _ _ _ _ :: Oper.mk _ (Op.load _ _) _ _ _ _ :: _) _); refine x_ldF rfl rfl (fun _ => rfl) rfl (fun _ => rfl) rfl rfl k4 hfb HB.out (by omega) (by omega) ?_; intro r9 g9; have G9 := hid g9; clear g9; simp only [Act.put, ev_tmp, List.setIfInBounds_toArray, List.set_cons_succ, List.set_cons_zero, List.getD_cons_succ, List.getD_cons_zero])
            | ((with_reducible show wpX _ _ _ _ _ _ (Oper.mk _ (Op.indexAddr _ _ _) _ _ _ _ :: _) _); refine x_idx rfl rfl rfl rfl hsome (by omega) (by omega) ?_; simp only [Act.put, ev_tmp, List.setIfInBounds_toArray, List.set_cons_succ, List.set_cons_zero, List.getD_cons_succ, List.getD_cons_zero])
            | ((with_reducible show wpX _ _ _ _ _ _ (Oper.mk _ (Op.binOp _ _ _ _ _) _ _ _ _ :: _) _); refine x_fop rfl rfl rfl rfl rfl ?_; first | (have zz := GB; intro rC gC; have GC := hid gC; clear gC zz) | (have zz := GA; intro rB gB; have GB := hid gB; clear gB zz) | (intro rA gA; have GA := hid gA; clear gA); simp only [Act.put, ev_tmp, List.setIfInBounds_toArray, List.set_cons_succ, List.set_cons_zero, List.getD_cons_succ, List.getD_cons_zero])
            | (refine x_run rfl fun K hK w1 hw1 => ?_; have k0 := hw1.cell (k5); have k1 := hw1.cell (k6); go_simp; refine hK _ ?_; clear hK K k0 k1 hw1 w1))
          refine x_nil ?_
          replace own0 := own_ext own0 hwf
          replace he := he.trans hwf
          go_wp2_with ((with_reducible show wpList _ _ _ (Oper.mk _ (Op.store _ _ _) _ _ _ _ :: _) _ _); refine wl_stP (u := .float .f32 rC) rfl rfl rfl rfl rfl own0 (by omega) ?_; intro w7 own7 g7)
          go_roundw
          case rel =>
            refine ⟨i + 1, _, by omega, by go_num, own7, ?_, he.grown g7 (fun k hk => own_le own0 k hk)⟩
            have q7 := G7.out
            have q8 := G8.out
            have q9 := G9.out
            rw [Int.toNat_natCast] at q7 q8 q9
            rw [HG.out] at q7
            simp only [Int.toNat_natCast, Nat.mul_one, Hid]
            exact HF.out.put hlt (by rw [GC.out, GB.out, GA.out, q7, q8, q9, HV6.out]; rfl)
          case measure => simp [intOf]; omega
        · obtain rfl : n = i := by omega
          rw [tab_mixn] at HF
          go_wp2
          go_ret
          rw [HS.out]
          exact retFl_own (tab_len _ _) (own_base own0 e0.size) HF.out rfl (e0.trans he)
set_option maxRecDepth 100000 in
set_option maxHeartbeats 4000000 in
theorem l03Norm_any {sp : Option Nat} (bl o' : Nat) (p pw pb : Option Addr) (n c cw cb : Nat) (us uw ub : List Value) (xs ws bs : List Nat) (w : World) (hx : xs.length = n) (hw : ws.length = n) (hb : bs.length = n) (hn : n ≤ 1073741824) (hp : Cs w p us) (hf : F32s us xs)
    (hpw : Cs w pw uw) (hfw : F32s uw ws) (hpb : Cs w pb ub) (hfb : F32s ub bs)
    (f1 : w.cell? ⟨bl, o' + 1, none⟩ = some (.int .i64 n)) (f3 : w.cell? ⟨bl, o' + 3, none⟩ = some (.slice pw n cw)) (f4 : w.cell? ⟨bl, o' + 4, none⟩ = some (.slice pb n cb)) :
    Calls Try.prog 170 #[.pointer (some ⟨bl, o', sp⟩), .slice p n c] w (RetFl w (normF ws bs xs)) := by
  have X := hid hx
  have HW := hid hw
  have HB := hid hb
  have hS : normF ws bs xs = tab n (nO ws bs xs) := by unfold normF; rw [hx]
  have HS := hid hS
  have hM : nM xs = fop .quo .f32 (sumG (fun j => xs.getD j 0) n) (floatOfInt .f32 n) := by unfold nM; rw [hx]
  have HM := hid hM
  have hR : nR xs = rootF (fop .add .f32 (fop .quo .f32 (dotG (nD xs) (nD xs) n) (floatOfInt .f32 n)) 981467136) := by unfold nR; rw [hx]
  have HR := hid hR
  have C := hid (l01Sum_any p n c us xs w hx (by unfold maxLen; omega) hp hf)
  clear hx hw hb hS hM hR
  go_enter Try.func170, Try.ntmps170
  go_wp2_with fail
  refine C.out.mono ?_
  rintro e w1 ⟨r0, rfl, g0, e1⟩
  have G0 := hid g0
  clear g0
  have e0 := e1
  replace f3 := e1.cell f3
  replace f4 := e1.cell f4
  go_wp2_with ((with_reducible show wpList _ _ _ (Oper.mk _ (Op.binOp _ _ _ _ _) _ _ _ _ :: _) _ _); refine wl_fop rfl rfl rfl rfl rfl ?_; intro r1 w2 e2 g1; have G1 := hid g1; clear g1)
  have hv : cn .f32 r1 = nM xs := by rw [G1.out, G0.out, cn_near32, HM.out]
  have HV := hid hv
  clear hv
  replace e0 := e0.trans e2
  replace f3 := e2.cell f3
  replace f4 := e2.cell f4
  have hstart : (w2.alloc (.cells #[] 26)).ownsRow w2.heap.size 26 1 (.slice (some ⟨w2.heap.size, 0, none⟩) 0 0) 0 [] := World.ownsRow_made w2 #[] 0 (Nat.le_refl _) (by decide) rfl
  have e9 := Ext.alloc w2 (.cells #[] 26)
  clear e2
  go_loopw [7, 8] (fun ov iv wr => ∃ (i : Nat) (vs : List Value) (q : Option Addr) (cq : Nat), i ≤ n ∧ iv = .int .i64 i ∧ ov = .slice q i cq ∧ wr.ownsRow w2.heap.size 26 1 (.slice q i cq) i vs ∧ Hid (F32s vs (tab i (nD xs))) ∧ Ext w2 wr) (fun _ iv _ => n - (intOf iv).toNat)
  case atStart => exact ⟨0, [], _, _, by omega, rfl, rfl, hstart, F32s.nil, e9⟩
  case round =>
    clear hstart e9
    obtain ⟨i, vs, q, cq, hi, rfl, rfl, own0, HF, he⟩ := hrel
    have hB := he.size
    by_cases hlt : i < n
    · have k1 := hp.ext (e0.trans he)
      go_wp2_with (first | ((with_reducible show wpList _ _ _ (Oper.mk _ (Op.indexAddr _ _ _) _ _ _ _ :: Oper.mk _ (Op.load _ _) _ _ _ _ :: _) _ _); refine wl_ldF rfl rfl rfl rfl (fun _ => rfl) rfl rfl k1 hf X.out (by omega) (by omega) ?_; intro r2 g2; have G2 := hid g2; clear g2) | ((with_reducible show wpList _ _ _ (Oper.mk _ (Op.binOp _ _ _ _ _) _ _ _ _ :: _) _ _); refine wl_fop rfl rfl rfl rfl rfl ?_; intro r3 w3 e3 g3; have G3 := hid g3; clear g3; replace own0 := own_ext own0 e3; replace he := he.trans e3; have hB := he.size) | ((with_reducible show wpList _ _ _ (Oper.mk _ (Op.buildSlice _ _ _) _ _ _ _ :: Oper.mk _ (Op.call _) _ _ _ _ :: _) _ _); refine wl_app1b (u := .float .f32 r3) rfl rfl rfl rfl rfl rfl rfl (fun _ => rfl) (fun _ => rfl) own0 (by unfold maxLen; omega) (by omega) (by omega) ?_; intro g c w4 own4 g4 hg4))
      have hv : cn .f32 r3 = nD xs i := by rw [G3.out, G2.out, HV.out, Int.toNat_natCast]; rfl
      have HV3 := hid hv
      clear hv
      go_roundw
      case rel =>
        have own5 : w4.ownsRow w2.heap.size 26 1 (.slice (some ⟨g, 0, none⟩) (i + 1) c) (i + 1) (vs ++ [.float .f32 r3]) := own4
        exact ⟨i + 1, vs ++ [.float .f32 r3], _, _, by omega, by go_num, rfl, own5, by rw [Hid]; exact HF.out.push HV3.out, he.grown g4 (fun k hk => own_le own0 k hk)⟩
      case measure => simp [intOf]; omega
    · obtain rfl : n = i := by omega
      go_wp2_with fail
      refine (l01Dot_any q q n cq n cq vs vs (tab n (nD xs)) (tab n (nD xs)) _ (tab_len _ _) (tab_len _ _) (Nat.le_refl _) (by unfold maxLen; omega) (own_Cs own0) HF.out (own_Cs own0) HF.out).mono ?_
      rintro e w3 ⟨r3, rfl, g3, e3⟩
      have hv : cn .f32 r3 = dotG (nD xs) (nD xs) n := by rw [g3]; exact dotG_congr (fun i hi => tab_get _ hi) (fun i hi => tab_get _ hi)
      have HV3 := hid hv
      clear hv g3
      replace own0 := own_ext own0 e3
      replace he := he.trans e3
      go_wp2_with ((with_reducible show wpList _ _ _ (Oper.mk _ (Op.binOp _ _ _ _ _) _ _ _ _ :: _) _ _); refine wl_fop rfl rfl rfl rfl rfl ?_; first | (have zz := G4; intro r5 w5 e5 g5; have G5 := hid g5; clear g5 zz; replace own0 := own_ext own0 e5; replace he := he.trans e5) | (intro r4 w4 e4 g4; have G4 := hid g4; clear g4; replace own0 := own_ext own0 e4; replace he := he.trans e4))
      refine (l01Sqrt_any r5 _).mono ?_
      rintro e w6 ⟨r6, rfl, g6, e6⟩
      have hv : cn .f32 r6 = nR xs := by rw [g6, G5.out, G4.out, HV3.out, cn_near32, cn_eps, HR.out]
      have HV6 := hid hv
      clear hv g6
      replace own0 := own_ext own0 e6
      replace he := he.trans e6
      go_wp2_with fail
      go_loopw [47] (fun iv wr => ∃ (i : Nat) (vs : List Value), i ≤ n ∧ iv = .int .i64 i ∧ wr.ownsRow w2.heap.size 26 1 (.slice q n cq) n vs ∧ Hid (F32s vs (tab n (mix (nO ws bs xs) (nD xs) i))) ∧ Ext w2 wr) (fun iv _ => n - (intOf iv).toNat)
      case atStart => exact ⟨0, vs, by omega, rfl, own0, by rw [tab_mix0]; exact HF.out, he⟩
      case round =>
        clear own0 he HF hB
        obtain ⟨i, vs, hi, rfl, own0, HF, he⟩ := hrel
        have hB := he.size
        by_cases hlt : i < n
        · have HL := hid (tab_len n (mix (nO ws bs xs) (nD xs) i))
          have hg : (tab n (mix (nO ws bs xs) (nD xs) i)).getD i 0 = nD xs i := by rw [tab_get _ hlt]; unfold mix; rw [if_neg (by omega)]
          have HG := hid hg
          have hsome := (own_Cs own0).isS (by have := own0.1; intro h; rw [h] at this; simp at this; omega)
          clear hg
          go_wp2
          replace own0 := own_ext own0 (Ext.drew _)
          replace he := he.trans (Ext.drew _)
          have k1 := own_Cs own0
          have k3 := hpw.ext (e0.trans he)
          have k4 := hpb.ext (e0.trans he)
          have k5 := he.cell f3
          have k6 := he.cell f4
          refine wp_region_xt 25 (F := fun _ _ _ => True) (by kernel_rfl) (by kernel_rfl) (by kernel_rfl) (by kernel_rfl) (by kernel_rfl) ?_
          intro wf hwf
          simp only [List.take_succ_cons, List.take_zero, List.drop_succ_cons, List.drop_zero]
          repeat (first
            | (refine x_skip rfl ?_; simp only [Act.put, ev_tmp, List.setIfInBounds_toArray, List.set_cons_succ, List.set_cons_zero, List.getD_cons_succ, List.getD_cons_zero])
            | (refine x_mv rfl rfl rfl ?_; simp only [Act.put, ev_tmp, List.setIfInBounds_toArray, List.set_cons_succ, List.set_cons_zero, List.getD_cons_succ, List.getD_cons_zero])
            | (refine x_as rfl rfl rfl ?_; simp only [Act.put, ev_tmp, List.setIfInBounds_toArray, List.set_cons_succ, List.set_cons_zero, List.getD_cons_succ, List.getD_cons_zero])
            | ((with_reducible show wpX _ _ _ _ _ _ (Oper.mk _ (Op.indexAddr _ _ _) _ _ _ _ :: Oper.mk _ (Op.load _ _) _ _ _ _ :: _) _); refine x_ldF rfl rfl (fun _ => rfl) rfl (fun _ => rfl) rfl rfl k1 HF.out HL.out (by omega) (by omega) ?_; intro r7 g7; have G7 := hid g7; clear g7; simp only [Act.put, ev_tmp, List.setIfInBounds_toArray, List.set_cons_succ, List.set_cons_zero, List.getD_cons_succ, List.getD_cons_zero])
            | ((with_reducible show wpX _ _ _ _ _ _ (Oper.mk _ (Op.indexAddr _ _ _) _ _ _ _ :: Oper.mk _ (Op.load _ _) _ _ _ _ :: _) _); refine x_ldF rfl rfl (fun _ => rfl) rfl (fun _ => rfl) rfl rfl k3 hfw HW.out (by omega) (by omega) ?_; intro r8 g8; have G8 := hid g8; clear g8; simp only [Act.put, ev_tmp, List.setIfInBounds_toArray, List.set_cons_succ, List.set_cons_zero, List.getD_cons_succ, List.getD_cons_zero])
            | ((with_reducible show wpX _ _ _ _ _ _ (Oper.mk _ (Op.indexAddr _ _ _) _ _ _ _ :: Oper.mk _ (Op.load _ _) _ _ _ _ :: _) _); refine x_ldF rfl rfl (fun _ => rfl) rfl (fun _ => rfl) rfl rfl k4 hfb HB.out (by omega) (by omega) ?_; intro r9 g9; have G9 := hid g9; clear g9; simp only [Act.put, ev_tmp, List.setIfInBounds_toArray, List.set_cons_succ, List.set_cons_zero, List.getD_cons_succ, List.getD_cons_zero])
            | ((with_reducible show wpX _ _ _ _ _ _ (Oper.mk _ (Op.indexAddr _ _ _) _ _ _ _ :: _) _); refine x_idx rfl rfl rfl rfl hsome (by omega) (by omega) ?_; simp only [Act.put, ev_tmp, List.setIfInBounds_toArray, List.set_cons_succ, List.set_cons_zero, List.getD_cons_succ, List.getD_cons_zero])
            | ((with_reducible show wpX _ _ _ _ _ _ (Oper.mk _ (Op.binOp _ _ _ _ _) _ _ _ _ :: _) _); refine x_fop rfl rfl rfl rfl rfl ?_; first | (have zz := GB; intro rC gC; have GC := hid gC; clear gC zz) | (have zz := GA; intro rB gB; have GB := hid gB; clear gB zz) | (intro rA gA; have GA := hid gA; clear gA); simp only [Act.put, ev_tmp, List.setIfInBounds_toArray, List.set_cons_succ, List.set_cons_zero, List.getD_cons_succ, List.getD_cons_zero])
            | (refine x_run rfl fun K hK w1 hw1 => ?_; have k0 := hw1.cell (k5); have k1 := hw1.cell (k6); go_simp; refine hK _ ?_; clear hK K k0 k1 hw1 w1))
          refine x_nil ?_
          replace own0 := own_ext own0 hwf
          replace he := he.trans hwf
          go_wp2_with ((with_reducible show wpList _ _ _ (Oper.mk _ (Op.store _ _ _) _ _ _ _ :: _) _ _); refine wl_stP (u := .float .f32 rC) rfl rfl rfl rfl rfl own0 (by omega) ?_; intro w7 own7 g7)
          go_roundw
          case rel =>
            refine ⟨i + 1, _, by omega, by go_num, own7, ?_, he.grown g7 (fun k hk => own_le own0 k hk)⟩
            have q7 := G7.out
            have q8 := G8.out
            have q9 := G9.out
            rw [Int.toNat_natCast] at q7 q8 q9
            rw [HG.out] at q7
            simp only [Int.toNat_natCast, Nat.mul_one, Hid]
            exact HF.out.put hlt (by rw [GC.out, GB.out, GA.out, q7, q8, q9, HV6.out]; rfl)
          case measure => simp [intOf]; omega
        · obtain rfl : n = i := by omega
          rw [tab_mixn] at HF
          go_wp2
          go_ret
          rw [HS.out]
          exact retFl_own (tab_len _ _) (own_base own0 e0.size) HF.out rfl (e0.trans he)
end Go.Proofs.Ytnlhahlegedlaaa
