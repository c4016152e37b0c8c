/- A part of the proofs: Clo, Fwd7, Fwd8, Fwd9, Fwd10, Stg, InOut. -/
import Derived.Test.YtlimabbeaimdgaaKd
import Derived.Test.YtlimabbeaimdgaaKc
import Derived.Test.YtlimabbeaimdgaaKb
/- Lists of numbers, cloned. -/
namespace Go.Proofs.Ytlimabbeaimdgaa
set_option linter.unusedSimpArgs false
set_option linter.unusedVariables false
open Go.RowKit

theorem retFl_nil {w w' : World} {e : Ending} (he : e = .returned (.slice none 0 0)) (hx : Ext w w') : RetFl w [] e w' :=
  ⟨none, 0, [], he, ⟨rfl, .inl ⟨rfl, rfl⟩⟩, F32s.nil, hx⟩
set_option maxRecDepth 100000 in
set_option maxHeartbeats 1000000 in
theorem cloneF_any (p : Option Addr) (n c : Nat) (us : List Value) (xs : List Nat) (w : World) (hx : xs.length = n) (hn : n ≤ 1073741824) (hc : n ≤ c) (hp : Cs w p us) (hf : F32s us xs) : Calls Try.prog 72 #[.slice p n c] w (RetFl w xs) := by
  have o1 := hid hf.one
  have u1 := hf.1
  cases p with
  | none =>
    have h0 : us = [] := Classical.byContradiction fun h => by have := hp.isS h; simp at this
    subst h0
    obtain rfl : xs = [] := List.eq_nil_of_length_eq_zero (by simpa using u1.symm)
    obtain rfl : n = 0 := by simpa using hx.symm
    clear hp hf o1 u1
    go_enter Try.func72, Try.ntmps72
    go_wp2
    go_ret
    exact retFl_nil rfl (Ext.refl _)
  | some ad =>
    have hstart : (w.alloc (.cells #[] 49)).ownsRow w.heap.size 49 1 (.slice (some ⟨w.heap.size, 0, none⟩) 0 0) 0 [] := World.ownsRow_made w #[] 0 (Nat.le_refl _) (by decide) rfl
    have e0 := Ext.alloc w (.cells #[] 49)
    have HX := hid hx
    have U1 := hid u1
    clear hx u1
    go_enter Try.func72, Try.ntmps72
    go_wp2_with ((with_reducible show wpList _ _ _ (Oper.mk _ (Op.call _) _ _ _ _ :: _) _ _); refine wl_appz rfl rfl rfl rfl hstart (hp.ext e0) (by rw [U1.out, HX.out, Nat.mul_one]) hc o1.out (by unfold maxLen; omega) (by omega) (by simp) ?_; intro v1 w1 own1 g1)
    go_ret
    rw [Nat.zero_add, List.nil_append] at own1
    exact retFl_of HX.out own1 hf rfl (e0.grown g1 (fun k hk => own_le hstart k hk))
end Go.Proofs.Ytlimabbeaimdgaa
/- The forward pass: normed numbers. -/
namespace Go.Proofs.Ytlimabbeaimdgaa
set_option linter.unusedSimpArgs false
set_option linter.unusedVariables false
open Go.RowKit

section
variable {P : Program} {w : World} {ops : Array Oper} {rest : List Oper} {o : Oper} {a : Act} {Q : Exit → Act → World → Prop}
/-- A store to an element of a row of the call's own. -/
theorem wl_stP {e : Nat} [Cell1 P e] {x y : Operand} (hg : o.guard = none) (ho : o.op = .store e x y)
    {p : Option Addr} {n c B i : Nat} {u : Value} (hx : a.eval x = .pointer (some (adr p i))) (hy : a.eval y = u) (hu1 : u.oneCell' = true) {vs : List Value} (hc : w.ownsRow B e 1 (.slice p n c) n vs) (hn : i < n)
    (h : ∀ w', w'.ownsRow B e 1 (.slice p n c) n (vs.set i u) → w.grownBy w' (Value.slice p n c).ownBlock → wpList P ops Q rest (a.put o.dst undef) w') : wpList P ops Q (o :: rest) a w := by
  obtain ⟨g, rfl⟩ := own_some hc (by omega)
  have hlen : vs.length = n := by have := hc.1; omega
  have hcell : w.cell? (adr (some ⟨g, 0, none⟩) i) = some (vs[i]'(by omega)) := by
    rw [adr_row, hc.cellAt _ (by omega)]; simp [hlen, hn]
  have hfr : w.frozen? (adr (some ⟨g, 0, none⟩) i) = false := by rw [adr_row]; exact hc.frozenAt _
  have hst := hc.stored i u
  rw [← adr_row] at hst
  refine wl_skip hg (w' := w.setCell (adr (some ⟨g, 0, none⟩) i) u) ?_ (h _ hst.1 hst.2)
  simp [execOp, ho, hx, hy, run_store1 hcell hfr hu1]
end

def nM (xs : List Nat) : Nat := fop .quo .f32 (sumG (fun j => xs.getD j 0) xs.length) (floatOfInt .f32 (xs.length : Int))
def nD (xs : List Nat) (i : Nat) : Nat := fop .sub .f32 (xs.getD i 0) (nM xs)
def nR (xs : List Nat) : Nat := rootF (fop .add .f32 (fop .quo .f32 (dotG (nD xs) (nD xs) xs.length) (floatOfInt .f32 (xs.length : Int))) 981467136)
def nO (ws bs xs : List Nat) (i : Nat) : Nat := fop .add .f32 (fop .mul .f32 (fop .quo .f32 (nD xs i) (nR xs)) (ws.getD i 0)) (bs.getD i 0)
def normF (ws bs xs : List Nat) : List Nat := tab xs.length (nO ws bs xs)
theorem cn_near32 (n : Int) : cn .f32 (floatOfInt .f32 n) = floatOfInt .f32 n := cn_nearest .f32 n
theorem cn_eps : cn .f32 981467136 = 981467136 := by decide +kernel

set_option maxRecDepth 100000 in
set_option maxHeartbeats 4000000 in
theorem norm_any (k o : Int) (p pw pb : Option Addr) (n c cw cb : Nat) (us uw ub : List Value) (xs ws bs : List Nat) (w : World) (hx : xs.length = n) (hw : ws.length = n) (hb : bs.length = n) (hn : n ≤ 1073741824) (hp : Cs w p us) (hf : F32s us xs)
    (hpw : Cs w pw uw) (hfw : F32s uw ws) (hpb : Cs w pb ub) (hfb : F32s ub bs) :
    Calls Try.prog 157 #[.agg #[.int .i64 k, .int .i64 n, .int .i64 o, .slice pw n cw, .slice pb n cb], .slice p n c] w (RetFl w (normF ws bs xs)) := by
  have X := hid hx
  have HW := hid hw
  have HB := hid hb
  have hS : normF ws bs xs = tab n (nO ws bs xs) := by unfold normF; rw [hx]
  have HS := hid hS
  have hM : nM xs = fop .quo .f32 (sumG (fun j => xs.getD j 0) n) (floatOfInt .f32 n) := by unfold nM; rw [hx]
  have HM := hid hM
  have hR : nR xs = rootF (fop .add .f32 (fop .quo .f32 (dotG (nD xs) (nD xs) n) (floatOfInt .f32 n)) 981467136) := by unfold nR; rw [hx]
  have HR := hid hR
  have eA := Ext.alloc w (.cells #[.int .i64 k, .int .i64 n, .int .i64 o, .slice pw n cw, .slice pb n cb] 65)
  have ca : ∀ (j : Nat) (v : Value), #[Value.int .i64 k, .int .i64 n, .int .i64 o, .slice pw n cw, .slice pb n cb][j]? = some v → (w.alloc (.cells #[.int .i64 k, .int .i64 n, .int .i64 o, .slice pw n cw, .slice pb n cb] 65)).cell? ⟨w.heap.size, j, none⟩ = some v := fun j v h => by
    unfold World.cell?
    rw [heap_alloc_new]
    simpa using h
  have f3 := ca 3 _ rfl
  have f4 := ca 4 _ rfl
  have C := hid (sumOf_any p n c us xs (w.alloc (.cells #[.int .i64 k, .int .i64 n, .int .i64 o, .slice pw n cw, .slice pb n cb] 65)) hx (by unfold maxLen; omega) (hp.ext eA) hf)
  clear hx hw hb hS hM hR ca
  go_enter Try.func157, Try.ntmps157
  go_wp2_with fail
  refine C.out.mono ?_
  rintro e w1 ⟨r0, rfl, g0, e1⟩
  have G0 := hid g0
  clear g0
  have e0 := eA.trans e1
  replace f3 := e1.cell f3
  replace f4 := e1.cell f4
  clear e1
  go_wp2_with ((with_reducible show wpList _ _ _ (Oper.mk _ (Op.binOp _ _ _ _ _) _ _ _ _ :: _) _ _); refine wl_fop rfl rfl rfl rfl rfl ?_; intro r1 w2 e2 g1; have G1 := hid g1; clear g1)
  have hv : cn .f32 r1 = nM xs := by rw [G1.out, G0.out, cn_near32, HM.out]
  have HV := hid hv
  clear hv
  replace e0 := e0.trans e2
  replace f3 := e2.cell f3
  replace f4 := e2.cell f4
  have hstart : (w2.alloc (.cells #[] 49)).ownsRow w2.heap.size 49 1 (.slice (some ⟨w2.heap.size, 0, none⟩) 0 0) 0 [] := World.ownsRow_made w2 #[] 0 (Nat.le_refl _) (by decide) rfl
  have e9 := Ext.alloc w2 (.cells #[] 49)
  clear e2
  go_loopw [7, 22] (fun ov iv wr => ∃ (i : Nat) (vs : List Value) (q : Option Addr) (cq : Nat), i ≤ n ∧ iv = .int .i64 i ∧ ov = .slice q i cq ∧ wr.ownsRow w2.heap.size 49 1 (.slice q i cq) i vs ∧ Hid (F32s vs (tab i (nD xs))) ∧ Ext w2 wr) (fun _ iv _ => n - (intOf iv).toNat)
  case atStart => exact ⟨0, [], _, _, by omega, rfl, rfl, hstart, F32s.nil, e9⟩
  case round =>
    clear hstart e9
    obtain ⟨i, vs, q, cq, hi, rfl, rfl, own0, HF, he⟩ := hrel
    have hB := he.size
    by_cases hlt : i < n
    · have k1 := hp.ext (e0.trans he)
      go_wp2_with (first | ((with_reducible show wpList _ _ _ (Oper.mk _ (Op.indexAddr _ _ _) _ _ _ _ :: Oper.mk _ (Op.load _ _) _ _ _ _ :: _) _ _); refine wl_ldF rfl rfl rfl rfl (fun _ => rfl) rfl rfl k1 hf X.out (by omega) (by omega) ?_; intro r2 g2; have G2 := hid g2; clear g2) | ((with_reducible show wpList _ _ _ (Oper.mk _ (Op.binOp _ _ _ _ _) _ _ _ _ :: _) _ _); refine wl_fop rfl rfl rfl rfl rfl ?_; intro r3 w3 e3 g3; have G3 := hid g3; clear g3; replace own0 := own_ext own0 e3; replace he := he.trans e3; have hB := he.size) | ((with_reducible show wpList _ _ _ (Oper.mk _ (Op.buildSlice _ _ _) _ _ _ _ :: Oper.mk _ (Op.call _) _ _ _ _ :: _) _ _); refine wl_app1b (u := .float .f32 r3) rfl rfl rfl rfl rfl rfl rfl (fun _ => rfl) (fun _ => rfl) own0 (by unfold maxLen; omega) (by omega) (by omega) ?_; intro g c w4 own4 g4 hg4))
      have hv : cn .f32 r3 = nD xs i := by rw [G3.out, G2.out, HV.out, Int.toNat_natCast]; rfl
      have HV3 := hid hv
      clear hv
      go_roundw
      case rel =>
        have own5 : w4.ownsRow w2.heap.size 49 1 (.slice (some ⟨g, 0, none⟩) (i + 1) c) (i + 1) (vs ++ [.float .f32 r3]) := own4
        exact ⟨i + 1, vs ++ [.float .f32 r3], _, _, by omega, by go_num, rfl, own5, by rw [Hid]; exact HF.out.push HV3.out, he.grown g4 (fun k hk => own_le own0 k hk)⟩
      case measure => simp [intOf]; omega
    · obtain rfl : n = i := by omega
      go_wp2_with fail
      refine (dot_any q q n cq n cq vs vs (tab n (nD xs)) (tab n (nD xs)) _ (tab_len _ _) (tab_len _ _) (Nat.le_refl _) (by unfold maxLen; omega) (own_Cs own0) HF.out (own_Cs own0) HF.out).mono ?_
      rintro e w3 ⟨r3, rfl, g3, e3⟩
      have hv : cn .f32 r3 = dotG (nD xs) (nD xs) n := by rw [g3]; exact dotG_congr (fun i hi => tab_get _ hi) (fun i hi => tab_get _ hi)
      have HV3 := hid hv
      clear hv g3
      replace own0 := own_ext own0 e3
      replace he := he.trans e3
      go_wp2_with ((with_reducible show wpList _ _ _ (Oper.mk _ (Op.binOp _ _ _ _ _) _ _ _ _ :: _) _ _); refine wl_fop rfl rfl rfl rfl rfl ?_; first | (have zz := G4; intro r5 w5 e5 g5; have G5 := hid g5; clear g5 zz; replace own0 := own_ext own0 e5; replace he := he.trans e5) | (intro r4 w4 e4 g4; have G4 := hid g4; clear g4; replace own0 := own_ext own0 e4; replace he := he.trans e4))
      refine (RootNumber_any r5 _).mono ?_
      rintro e w6 ⟨r6, rfl, g6, e6⟩
      have hv : cn .f32 r6 = nR xs := by rw [g6, G5.out, G4.out, HV3.out, cn_near32, cn_eps, HR.out]
      have HV6 := hid hv
      clear hv g6
      replace own0 := own_ext own0 e6
      replace he := he.trans e6
      go_wp2_with fail
      go_loopw [42] (fun iv wr => ∃ (i : Nat) (vs : List Value), i ≤ n ∧ iv = .int .i64 i ∧ wr.ownsRow w2.heap.size 49 1 (.slice q n cq) n vs ∧ Hid (F32s vs (tab n (mix (nO ws bs xs) (nD xs) i))) ∧ Ext w2 wr) (fun iv _ => n - (intOf iv).toNat)
      case atStart => exact ⟨0, vs, by omega, rfl, own0, by rw [tab_mix0]; exact HF.out, he⟩
      case round =>
        clear own0 he HF hB
        obtain ⟨i, vs, hi, rfl, own0, HF, he⟩ := hrel
        have hB := he.size
        by_cases hlt : i < n
        · have HL := hid (tab_len n (mix (nO ws bs xs) (nD xs) i))
          have hg : (tab n (mix (nO ws bs xs) (nD xs) i)).getD i 0 = nD xs i := by rw [tab_get _ hlt]; unfold mix; rw [if_neg (by omega)]
          have HG := hid hg
          have hsome := (own_Cs own0).isS (by have := own0.1; intro h; rw [h] at this; simp at this; omega)
          clear hg
          go_wp2
          replace own0 := own_ext own0 (Ext.drew _)
          replace he := he.trans (Ext.drew _)
          have k1 := own_Cs own0
          have k3 := hpw.ext (e0.trans he)
          have k4 := hpb.ext (e0.trans he)
          have k5 := he.cell f3
          have k6 := he.cell f4
          refine wp_region_xt 21 (F := fun _ _ _ => True) (by kernel_rfl) (by kernel_rfl) (by kernel_rfl) (by kernel_rfl) (by kernel_rfl) ?_
          intro wf hwf
          simp only [List.take_succ_cons, List.take_zero, List.drop_succ_cons, List.drop_zero]
          repeat (first
            | (refine x_skip rfl ?_; simp only [Act.put, ev_tmp, List.setIfInBounds_toArray, List.set_cons_succ, List.set_cons_zero, List.getD_cons_succ, List.getD_cons_zero])
            | (refine x_mv rfl rfl rfl ?_; simp only [Act.put, ev_tmp, List.setIfInBounds_toArray, List.set_cons_succ, List.set_cons_zero, List.getD_cons_succ, List.getD_cons_zero])
            | (refine x_as rfl rfl rfl ?_; simp only [Act.put, ev_tmp, List.setIfInBounds_toArray, List.set_cons_succ, List.set_cons_zero, List.getD_cons_succ, List.getD_cons_zero])
            | ((with_reducible show wpX _ _ _ _ _ _ (Oper.mk _ (Op.indexAddr _ _ _) _ _ _ _ :: Oper.mk _ (Op.load _ _) _ _ _ _ :: _) _); refine x_ldF rfl rfl (fun _ => rfl) rfl (fun _ => rfl) rfl rfl k1 HF.out HL.out (by omega) (by omega) ?_; intro r7 g7; have G7 := hid g7; clear g7; simp only [Act.put, ev_tmp, List.setIfInBounds_toArray, List.set_cons_succ, List.set_cons_zero, List.getD_cons_succ, List.getD_cons_zero])
            | ((with_reducible show wpX _ _ _ _ _ _ (Oper.mk _ (Op.indexAddr _ _ _) _ _ _ _ :: Oper.mk _ (Op.load _ _) _ _ _ _ :: _) _); refine x_ldF rfl rfl (fun _ => rfl) rfl (fun _ => rfl) rfl rfl k3 hfw HW.out (by omega) (by omega) ?_; intro r8 g8; have G8 := hid g8; clear g8; simp only [Act.put, ev_tmp, List.setIfInBounds_toArray, List.set_cons_succ, List.set_cons_zero, List.getD_cons_succ, List.getD_cons_zero])
            | ((with_reducible show wpX _ _ _ _ _ _ (Oper.mk _ (Op.indexAddr _ _ _) _ _ _ _ :: Oper.mk _ (Op.load _ _) _ _ _ _ :: _) _); refine x_ldF rfl rfl (fun _ => rfl) rfl (fun _ => rfl) rfl rfl k4 hfb HB.out (by omega) (by omega) ?_; intro r9 g9; have G9 := hid g9; clear g9; simp only [Act.put, ev_tmp, List.setIfInBounds_toArray, List.set_cons_succ, List.set_cons_zero, List.getD_cons_succ, List.getD_cons_zero])
            | ((with_reducible show wpX _ _ _ _ _ _ (Oper.mk _ (Op.indexAddr _ _ _) _ _ _ _ :: _) _); refine x_idx rfl rfl rfl rfl hsome (by omega) (by omega) ?_; simp only [Act.put, ev_tmp, List.setIfInBounds_toArray, List.set_cons_succ, List.set_cons_zero, List.getD_cons_succ, List.getD_cons_zero])
            | ((with_reducible show wpX _ _ _ _ _ _ (Oper.mk _ (Op.binOp _ _ _ _ _) _ _ _ _ :: _) _); refine x_fop rfl rfl rfl rfl rfl ?_; first | (have zz := GB; intro rC gC; have GC := hid gC; clear gC zz) | (have zz := GA; intro rB gB; have GB := hid gB; clear gB zz) | (intro rA gA; have GA := hid gA; clear gA); simp only [Act.put, ev_tmp, List.setIfInBounds_toArray, List.set_cons_succ, List.set_cons_zero, List.getD_cons_succ, List.getD_cons_zero])
            | (refine x_run rfl fun K hK w1 hw1 => ?_; have k0 := hw1.cell (k5); have k1 := hw1.cell (k6); go_simp; refine hK _ ?_; clear hK K k0 k1 hw1 w1))
          refine x_nil ?_
          replace own0 := own_ext own0 hwf
          replace he := he.trans hwf
          go_wp2_with ((with_reducible show wpList _ _ _ (Oper.mk _ (Op.store _ _ _) _ _ _ _ :: _) _ _); refine wl_stP (u := .float .f32 rC) rfl rfl rfl rfl rfl own0 (by omega) ?_; intro w7 own7 g7)
          go_roundw
          case rel =>
            refine ⟨i + 1, _, by omega, by go_num, own7, ?_, he.grown g7 (fun k hk => own_le own0 k hk)⟩
            have q7 := G7.out
            have q8 := G8.out
            have q9 := G9.out
            rw [Int.toNat_natCast] at q7 q8 q9
            rw [HG.out] at q7
            simp only [Int.toNat_natCast, Nat.mul_one, Hid]
            exact HF.out.put hlt (by rw [GC.out, GB.out, GA.out, q7, q8, q9, HV6.out]; rfl)
          case measure => simp [intOf]; omega
        · obtain rfl : n = i := by omega
          rw [tab_mixn] at HF
          go_wp2
          go_ret
          rw [HS.out]
          exact retFl_own (tab_len _ _) (own_base own0 e0.size) HF.out rfl (e0.trans he)
end Go.Proofs.Ytlimabbeaimdgaa
/- The forward pass: one layer. -/
namespace Go.Proofs.Ytlimabbeaimdgaa
set_option linter.unusedSimpArgs false
set_option linter.unusedVariables false
open Go.RowKit

section
variable {P : Program} {w wf : World} {ops : Array Oper} {rest : List Oper} {o : Oper} {a : Act} {Q : Act → Prop} {F : Option Tmp → World → World → Value → Prop}
/-- A part of a slice, in a region whose order is drawn. -/
theorem x_slice {t e s b : Nat} {z : Value} [T : SlTy P t e s z b] {x lo hi : Operand} (hw : Region.wanted o (yielded ops a.tmps) = true) (ho : o.op = .slice t x (some lo) (some hi) none) {p : Option Addr} {n c : Nat} {k1 k2 : IntKind} {li ui : Int} {l u : Nat}
    (hx : a.eval x = .slice p n c) (hlo : a.eval lo = .int k1 li) (hhi : a.eval hi = .int k2 ui) (h1 : li = l) (h2 : ui = u) (h3 : l ≤ u) (h4 : u ≤ c)
    (h : wpX P ops F w wf Q rest (a.put o.dst (.slice (subp p s l c) (u - l) (c - l)))) : wpX P ops F w wf Q (o :: rest) a := by
  subst h1; subst h2
  exact x_pure hw (fun w1 _ => by simp [execOp, ho, hx, hlo, hhi, run_slice h3 h4]) h
end
theorem F32s.part {us : List Value} {xs : List Nat} (h : F32s us xs) (l u : Nat) : F32s ((us.take u).drop l) ((xs.take u).drop l) := by
  refine ⟨by simp [h.1], fun i hi => ?_⟩
  simp only [List.length_drop, List.length_take] at hi
  obtain ⟨b, h1, h2⟩ := h.2 (l + i) (by omega)
  refine ⟨b, ?_, ?_⟩
  · rw [List.getElem?_drop, List.getElem?_take_of_lt (by omega)]; exact h1
  · rw [h2, List.getD_eq_getElem?_getD, List.getD_eq_getElem?_getD, List.getElem?_drop, List.getElem?_take_of_lt (by omega)]
theorem part_get {xs : List Nat} {l u i : Nat} (h : l + i < u) : ((xs.take u).drop l).getD i 0 = xs.getD (l + i) 0 := by
  rw [List.getD_eq_getElem?_getD, List.getD_eq_getElem?_getD, List.getElem?_drop, List.getElem?_take_of_lt h]

/-- One number that a layer makes: dense, greater than nought, scaled, tangent. -/
def rO (k : Int) (n : Nat) (ws bs xs : List Nat) (j : Nat) : Nat :=
  if k = 0 then fop .add .f32 (dotG (fun t => ws.getD (j * n + t) 0) (fun t => xs.getD t 0) n) (bs.getD j 0)
  else if k = 1 then reluF (xs.getD j 0)
  else if k = 2 then fop .mul .f32 (ws.getD j 0) (xs.getD j 0)
  else tanF (xs.getD j 0)
/-- What a layer makes of a row. -/
def runF (k : Int) (n m : Nat) (ws bs xs : List Nat) : List Nat :=
  if k = 4 then softF xs else if k = 5 then normF ws bs xs else tab m (rO k n ws bs xs)
/-- The counts of a valid layer. -/
theorem lay_of {k : Int} {n m nw nb : Nat} (h : layB k n m nw nb = true) : (k = 0 ∨ k = 1 ∨ k = 2 ∨ k = 3 ∨ k = 4 ∨ k = 5) ∧ 1 ≤ n ∧ n ≤ 8 ∧ 1 ≤ m ∧ m ≤ 8 ∧ (k = 0 ∨ n = m) ∧ (k = 0 → nw = n * m ∧ nb = m) ∧ (k = 2 → n = nw) ∧ (k = 5 → n = nw ∧ n = nb) := by
  unfold layB inB at h
  simp only [Bool.and_eq_true, decide_eq_true_eq, Bool.or_eq_true] at h
  obtain ⟨h1, h2, h3, h4, h5, h6⟩ := h
  refine ⟨by omega, by omega, by omega, by omega, by omega, by omega, ?_, ?_, ?_⟩
  · rintro rfl
    simp only [wCnt, bCnt, if_true] at h5 h6
    exact ⟨by exact_mod_cast h5, by omega⟩
  · rintro rfl
    simp [wCnt] at h5
    omega
  · rintro rfl
    simp [wCnt, bCnt] at h5 h6
    omega

set_option maxRecDepth 100000 in
set_option maxHeartbeats 4000000 in
theorem run_any (k : Int) (n m nw nb : Nat) (p pw pb : Option Addr) (c cw cb : Nat) (us uw ub : List Value) (xs ws bs : List Nat) (w : World) (hk : layB k n m nw nb = true) (hx : xs.length = n) (hw : ws.length = nw) (hb : bs.length = nb) (hp : Cs w p us) (hf : F32s us xs)
    (hpw : Cs w pw uw) (hfw : F32s uw ws) (hpb : Cs w pb ub) (hfb : F32s ub bs) (hcw : nw ≤ cw) :
    Calls Try.prog 111 #[.agg #[.int .i64 k, .int .i64 n, .int .i64 m, .slice pw nw cw, .slice pb nb cb], .slice p n c] w (RetFl w (runF k n m ws bs xs)) := by
  obtain ⟨h0, h1, h2, h3, h4, h5, h6, h7, h8⟩ := lay_of hk
  by_cases k4 : k = 4
  · subst k4
    have hs : runF 4 n m ws bs xs = softF xs := rfl
    rw [hs]
    have C := hid (fun w1 (e1 : Ext w w1) => softmax_any p n c us xs w1 hx h1 (by omega) (hp.ext e1) hf)
    clear hx hw hb hk h0 h1 h2 h3 h4 h5 h6 h7 h8 hs
    go_enter Try.func111, Try.ntmps111
    go_wp2_with ((with_reducible show wpList _ _ _ (Oper.mk _ (Op.box _ _) _ _ _ _ :: _) _ _); refine wl_box (s := shLayer) (cs := [.int .i64 4, .int .i64 n, .int .i64 m, .slice pw nw cw, .slice pb nb cb]) rfl rfl rfl rfl (by simp [Value.oneCell']) ?_; intro b v e1 hlo c1; have f0 := c1.cell 0 _ rfl; simp only [adr_row] at f0)
    refine (C.out _ e1).mono ?_
    rintro e w1 ⟨q, cq, vs, rfl, own0, HF, he⟩
    go_wp2
    go_ret
    exact ⟨q, cq, vs, rfl, own_base own0 e1.size, HF, e1.trans he⟩
  · by_cases k5 : k = 5
    · subst k5
      obtain ⟨rfl, rfl⟩ := h8 rfl
      have hs : runF 5 n m ws bs xs = normF ws bs xs := rfl
      rw [hs]
      have C := hid (fun w1 (e1 : Ext w w1) => norm_any 5 m p pw pb n c cw cb us uw ub xs ws bs w1 hx hw hb (by omega) (hp.ext e1) hf (hpw.ext e1) hfw (hpb.ext e1) hfb)
      clear hx hw hb hk h0 h1 h2 h3 h4 h5 h6 h7 h8 hs k4
      go_enter Try.func111, Try.ntmps111
      go_wp2_with (first | ((with_reducible show wpList _ _ _ (Oper.mk _ (Op.box _ _) _ _ _ _ :: _) _ _); refine wl_box (s := shLayer) (cs := [.int .i64 5, .int .i64 n, .int .i64 m, .slice pw n cw, .slice pb n cb]) rfl rfl rfl rfl (by simp [Value.oneCell']) ?_; intro b v e1 hlo c1; have f0 := c1.cell 0 _ rfl; simp only [adr_row] at f0) | ((with_reducible show wpList _ _ _ (Oper.mk _ (Op.load _ _) _ _ _ _ :: _) _ _); refine wl_ldA (s := shLayer) (cs := [.int .i64 5, .int .i64 n, .int .i64 m, .slice pw n cw, .slice pb n cb]) rfl rfl rfl c1 rfl ?_; simp only [ofCs, Sh.agg, if_true]))
      refine (C.out _ e1).mono ?_
      rintro e w1 ⟨q, cq, vs, rfl, own0, HF, he⟩
      go_wp2
      go_ret
      exact ⟨q, cq, vs, rfl, own_base own0 e1.size, HF, e1.trans he⟩
    · have hs : runF k n m ws bs xs = tab m (rO k n ws bs xs) := by unfold runF; rw [if_neg k4, if_neg k5]
      rw [hs]
      have X := hid hx
      have HW := hid hw
      have HB := hid hb
      have b4 := beq_f k4
      have b5 := beq_f k5
      have hk4 : k = 0 ∨ k = 1 ∨ k = 2 ∨ k = 3 := by omega
      have H6 := hid h6
      have H7 := hid h7
      have H5 := hid h5
      clear hx hw hb hk h0 hs h6 h7 h8 h5
      go_enter Try.func111, Try.ntmps111
      go_wp2_with ((with_reducible show wpList _ _ _ (Oper.mk _ (Op.box _ _) _ _ _ _ :: _) _ _); refine wl_box (s := shLayer) (cs := [.int .i64 k, .int .i64 n, .int .i64 m, .slice pw nw cw, .slice pb nb cb]) rfl rfl rfl rfl (by simp [Value.oneCell']) ?_; intro b v e1 hlo c1; have f0 := c1.cell 0 _ rfl; have f2 := c1.cell 2 _ rfl; simp only [adr_row] at f0 f2; have f2b := (Ext.alloc v (.cells #[] 49)).cell f2)
      have f1 := c1.cell 1 _ rfl
      have f3 := c1.cell 3 _ rfl
      have f4 := c1.cell 4 _ rfl
      simp only [adr_row] at f1 f3 f4
      have hstart : (v.alloc (.cells #[] 49)).ownsRow v.heap.size 49 1 (.slice (some ⟨v.heap.size, 0, none⟩) 0 0) 0 [] := World.ownsRow_made v #[] 0 (Nat.le_refl _) (by decide) rfl
      have e9 := Ext.alloc v (.cells #[] 49)
      replace hp := hp.ext e1
      replace hpw := hpw.ext e1
      replace hpb := hpb.ext e1
      go_loopw [5, 22] (fun ov iv wr => ∃ (i : Nat) (vs : List Value) (q : Option Addr) (cq : Nat), i ≤ m ∧ iv = .int .i64 i ∧ ov = .slice q i cq ∧ wr.ownsRow v.heap.size 49 1 (.slice q i cq) i vs ∧ Hid (F32s vs (tab i (rO k n ws bs xs))) ∧ Ext v wr) (fun _ iv _ => m - (intOf iv).toNat)
      case atStart => exact ⟨0, [], _, _, by omega, rfl, rfl, hstart, F32s.nil, e9⟩
      case round =>
        clear hstart e9
        obtain ⟨i, vs, q, cq, hi, rfl, rfl, own0, HF, he⟩ := hrel
        have hB := he.size
        by_cases hlt : i < m
        · have g0 := he.cell f0
          have g1 := he.cell f1
          have g3 := he.cell f3
          have g4 := he.cell f4
          have hpi := hp.ext he
          rcases hk4 with rfl | rfl | rfl | rfl
          · obtain ⟨hnw, hnb⟩ := H6.out rfl
            obtain ⟨L, hL⟩ : ∃ L : Nat, L = i * n := ⟨_, rfl⟩
            obtain ⟨H, hH⟩ : ∃ H : Nat, H = L + n := ⟨_, rfl⟩
            have hb1 : i * n ≤ 7 * 8 := Nat.mul_le_mul (by omega) (by omega)
            have hb2 : H ≤ nw := by
              rw [hH, hL, hnw, ← Nat.succ_mul, Nat.mul_comm n m]; exact Nat.mul_le_mul_right _ (by omega)
            have m1 : (i : Int) * (n : Int) = (L : Int) := by rw [hL]; push_cast; rfl
            have m2 : ((i : Int) + 1) * (n : Int) = (H : Int) := by rw [Int.add_mul, m1, hH]; push_cast; omega
            have l1 : IntKind.i64.wrap ((i : Int) * (n : Int)) = (L : Int) := by rw [m1]; exact wrap_in _ (by omega) (by omega)
            have l2 : IntKind.i64.wrap (((i : Int) + 1) * (n : Int)) = (H : Int) := by rw [m2]; exact wrap_in _ (by omega) (by omega)
            have l3 : IntKind.i64.wrap ((i : Int) + 1) = (i : Int) + 1 := wrap_in _ (by omega) (by omega)
            obtain ⟨DV, hDV⟩ : ∃ DV, DV = dotG (fun t => ws.getD (i * n + t) 0) (fun t => xs.getD t 0) n := ⟨_, rfl⟩
            have hpw1 := hpw.ext he
            have C := hid (fun w1 (e1 : Ext wr w1) => dot_any (subp pw 1 L cw) p (H - L) (cw - L) n c ((uw.take (H * 1)).drop (L * 1)) us ((ws.take (H * 1)).drop (L * 1)) xs w1 (by simp [HW.out]; omega) X.out (by omega) (by unfold maxLen; omega) ((hpw1.ext e1).sub (by omega) (by omega)) (hfw.part _ _) (hpi.ext e1) hf)
            have hD2 : dotG (fun j => ((ws.take (H * 1)).drop (L * 1)).getD j 0) (fun j => xs.getD j 0) (H - L) = DV := by
              rw [hDV, show H - L = n by omega]
              refine dotG_congr (fun t ht => ?_) (fun t ht => rfl)
              rw [part_get (by omega), ← hL, Nat.mul_one]
            rw [hD2] at C
            have HD := hid hDV
            have HH := hid hH
            have HL := hid hL
            have hbl : i < nb := by omega
            clear hDV hH hL m1 m2 hD2 hb1 hnw hnb
            go_wp2
            obtain ⟨F, hF⟩ : ∃ F : Option Tmp → World → Value → Prop, F = fun _ _ u => ∃ b, u = .float .f32 b ∧ cn .f32 b = DV := ⟨_, rfl⟩
            have HFF := hid hF
            clear hF
            have k0 := Ext.drew wr
            replace g1 := k0.cell g1
            replace g3 := k0.cell g3
            replace g4 := k0.cell g4
            have kb := (hpb.ext he).ext k0
            refine wp_region_xall (F := F) (by kernel_rfl) (by kernel_rfl) (by kernel_rfl) ?_
            intro wf hwf
            repeat (first
              | (refine x_skip rfl ?_; simp only [Act.put, ev_tmp, List.setIfInBounds_toArray, List.set_cons_succ, List.set_cons_zero, List.getD_cons_succ, List.getD_cons_zero])
              | (refine x_mv rfl rfl rfl ?_; simp only [Act.put, ev_tmp, List.setIfInBounds_toArray, List.set_cons_succ, List.set_cons_zero, List.getD_cons_succ, List.getD_cons_zero])
              | (refine x_as rfl rfl rfl ?_; simp only [Act.put, ev_tmp, List.setIfInBounds_toArray, List.set_cons_succ, List.set_cons_zero, List.getD_cons_succ, List.getD_cons_zero])
              | ((with_reducible show wpX _ _ _ _ _ _ (Oper.mk _ (Op.slice _ _ _ _ _) _ _ _ _ :: _) _); refine x_slice rfl rfl rfl rfl rfl (l := L) (u := H) rfl rfl (by have := HH.out; omega) (by omega) ?_; simp only [Act.put, ev_tmp, List.setIfInBounds_toArray, List.set_cons_succ, List.set_cons_zero, List.getD_cons_succ, List.getD_cons_zero])
              | ((with_reducible show wpX _ _ _ _ _ _ (Oper.mk _ (Op.indexAddr _ _ _) _ _ _ _ :: Oper.mk _ (Op.load _ _) _ _ _ _ :: _) _); refine x_ldF rfl rfl (fun _ => rfl) rfl (fun _ => rfl) rfl rfl kb hfb HB.out (by omega) (by omega) ?_; intro r2 q2; have G2 := hid q2; clear q2; simp only [Act.put, ev_tmp, List.setIfInBounds_toArray, List.set_cons_succ, List.set_cons_zero, List.getD_cons_succ, List.getD_cons_zero])
              | ((with_reducible show wpX _ _ _ _ _ _ (Oper.mk _ (Op.binOp _ _ _ _ _) _ _ _ _ :: _) _); refine x_fop rfl rfl rfl rfl rfl ?_; intro r3 q3; have G3 := hid q3; clear q3; simp only [Act.put, ev_tmp, List.setIfInBounds_toArray, List.set_cons_succ, List.set_cons_zero, List.getD_cons_succ, List.getD_cons_zero])
              | ((with_reducible show wpX _ _ _ _ _ _ (Oper.mk _ (Op.call _) _ _ _ _ :: _) _); refine x_callf (f := 158) (args := #[.slice (subp pw 1 L cw) (H - L) (cw - L), .slice p n c]) rfl rfl Try.func158 rfl (by kernel_rfl) ?_ ?_ ?_; (focus (simp [Act.eval]; done)); (focus (intro w1 hw1; exact ((C.out w1 (k0.trans hw1)).mono fun e w3 ⟨b, h1, h2, h3⟩ => ⟨_, h1, h3, by rw [HFF.out]; exact ⟨b, rfl, h2⟩⟩))); rintro u w3 e3 e4 hu; simp only [HFF.out] at hu; obtain ⟨r1, rfl, q1⟩ := hu; have G1 := hid q1; clear q1; simp only [Act.put, ev_tmp, List.setIfInBounds_toArray, List.set_cons_succ, List.set_cons_zero, List.getD_cons_succ, List.getD_cons_zero])
              | (refine x_run rfl fun K hK w1 hw1 => ?_; have k0 := hw1.cell (g1); have k1 := hw1.cell (g3); have k2 := hw1.cell (g4); go_simp; refine hK _ ?_; clear hK K k0 k1 k2 hw1 w1))
            refine x_nil ?_
            have hv : cn .f32 r3 = rO 0 n ws bs xs i := by rw [G3.out, G1.out, G2.out, HD.out, Int.toNat_natCast]; rfl
            have HV3 := hid hv
            clear hv
            replace own0 := own_ext (own_ext own0 k0) hwf
            replace he := (he.trans k0).trans hwf
            have hB := he.size
            go_wp2_with ((with_reducible show wpList _ _ _ (Oper.mk _ (Op.buildSlice _ _ _) _ _ _ _ :: Oper.mk _ (Op.call _) _ _ _ _ :: _) _ _); refine wl_app1b (u := .float .f32 r3) rfl rfl rfl rfl rfl rfl rfl (fun _ => rfl) (fun _ => rfl) own0 (by unfold maxLen; omega) (by omega) (by omega) ?_; intro g c w4 own4 g4 hg4)
            go_roundw
            case rel =>
              have own5 : w4.ownsRow v.heap.size 49 1 (.slice (some ⟨g, 0, none⟩) (i + 1) c) (i + 1) (vs ++ [.float .f32 r3]) := own4
              exact ⟨i + 1, vs ++ [.float .f32 r3], _, _, by omega, by go_num, rfl, own5, by rw [Hid]; exact HF.out.push HV3.out, he.grown g4 (fun k hk => own_le own0 k hk)⟩
            case measure => simp [intOf]; omega
          · go_wp2_with (first | ((with_reducible show wpList _ _ _ (Oper.mk _ (Op.indexAddr _ _ _) _ _ _ _ :: Oper.mk _ (Op.load _ _) _ _ _ _ :: _) _ _); refine wl_ldF rfl rfl rfl rfl (fun _ => rfl) rfl rfl hpi hf X.out (by omega) (by have := H5.out; omega) ?_; intro r2 q2; have G2 := hid q2; clear q2) | ((with_reducible show wpList _ _ _ (Oper.mk _ (Op.call _) _ _ _ _ :: _) _ _); fail))
            refine (relu_any r2 _).mono ?_
            rintro e w3 ⟨r3, rfl, q3, e3⟩
            have hv : cn .f32 r3 = rO 1 n ws bs xs i := by rw [q3, G2.out, Int.toNat_natCast]; rfl
            have HV3 := hid hv
            clear hv q3
            replace own0 := own_ext own0 e3
            replace he := he.trans e3
            have hB := he.size
            go_wp2_with ((with_reducible show wpList _ _ _ (Oper.mk _ (Op.buildSlice _ _ _) _ _ _ _ :: Oper.mk _ (Op.call _) _ _ _ _ :: _) _ _); refine wl_app1b (u := .float .f32 r3) rfl rfl rfl rfl rfl rfl rfl (fun _ => rfl) (fun _ => rfl) own0 (by unfold maxLen; omega) (by omega) (by omega) ?_; intro g c w4 own4 g4 hg4)
            go_roundw
            case rel =>
              have own5 : w4.ownsRow v.heap.size 49 1 (.slice (some ⟨g, 0, none⟩) (i + 1) c) (i + 1) (vs ++ [.float .f32 r3]) := own4
              exact ⟨i + 1, vs ++ [.float .f32 r3], _, _, by omega, by go_num, rfl, own5, by rw [Hid]; exact HF.out.push HV3.out, he.grown g4 (fun k hk => own_le own0 k hk)⟩
            case measure => simp [intOf]; omega
          · have hwl : i < nw := by have := H5.out; have := H7.out rfl; omega
            have hxl : i < n := by have := H5.out; omega
            have hpw1 := hpw.ext he
            go_wp2
            have k0 := Ext.drew wr
            replace g3 := k0.cell g3
            have ka := hpi.ext k0
            have kb := hpw1.ext k0
            refine wp_region_xall (F := fun _ _ _ => False) (by kernel_rfl) (by kernel_rfl) (by kernel_rfl) ?_
            intro wf hwf
            repeat (first
              | (refine x_skip rfl ?_; simp only [Act.put, ev_tmp, List.setIfInBounds_toArray, List.set_cons_succ, List.set_cons_zero, List.getD_cons_succ, List.getD_cons_zero])
              | (refine x_mv rfl rfl rfl ?_; simp only [Act.put, ev_tmp, List.setIfInBounds_toArray, List.set_cons_succ, List.set_cons_zero, List.getD_cons_succ, List.getD_cons_zero])
              | (refine x_as rfl rfl rfl ?_; simp only [Act.put, ev_tmp, List.setIfInBounds_toArray, List.set_cons_succ, List.set_cons_zero, List.getD_cons_succ, List.getD_cons_zero])
              | ((with_reducible show wpX _ _ _ _ _ _ (Oper.mk _ (Op.indexAddr _ _ _) _ _ _ _ :: Oper.mk _ (Op.load _ _) _ _ _ _ :: _) _); refine x_ldF rfl rfl (fun _ => rfl) rfl (fun _ => rfl) rfl rfl kb hfw HW.out (by omega) (by omega) ?_; intro r1 q1; have G1 := hid q1; clear q1; simp only [Act.put, ev_tmp, List.setIfInBounds_toArray, List.set_cons_succ, List.set_cons_zero, List.getD_cons_succ, List.getD_cons_zero])
              | ((with_reducible show wpX _ _ _ _ _ _ (Oper.mk _ (Op.indexAddr _ _ _) _ _ _ _ :: Oper.mk _ (Op.load _ _) _ _ _ _ :: _) _); refine x_ldF rfl rfl (fun _ => rfl) rfl (fun _ => rfl) rfl rfl ka hf X.out (by omega) (by omega) ?_; intro r2 q2; have G2 := hid q2; clear q2; simp only [Act.put, ev_tmp, List.setIfInBounds_toArray, List.set_cons_succ, List.set_cons_zero, List.getD_cons_succ, List.getD_cons_zero])
              | ((with_reducible show wpX _ _ _ _ _ _ (Oper.mk _ (Op.binOp _ _ _ _ _) _ _ _ _ :: _) _); refine x_fop rfl rfl rfl rfl rfl ?_; intro r3 q3; have G3 := hid q3; clear q3; simp only [Act.put, ev_tmp, List.setIfInBounds_toArray, List.set_cons_succ, List.set_cons_zero, List.getD_cons_succ, List.getD_cons_zero])
              | (refine x_run rfl fun K hK w1 hw1 => ?_; have k0 := hw1.cell (g3); go_simp; refine hK _ ?_; clear hK K k0 hw1 w1))
            refine x_nil ?_
            have hv : cn .f32 r3 = rO 2 n ws bs xs i := by rw [G3.out, G1.out, G2.out, Int.toNat_natCast]; rfl
            have HV3 := hid hv
            clear hv
            replace own0 := own_ext (own_ext own0 k0) hwf
            replace he := (he.trans k0).trans hwf
            have hB := he.size
            go_wp2_with ((with_reducible show wpList _ _ _ (Oper.mk _ (Op.buildSlice _ _ _) _ _ _ _ :: Oper.mk _ (Op.call _) _ _ _ _ :: _) _ _); refine wl_app1b (u := .float .f32 r3) rfl rfl rfl rfl rfl rfl rfl (fun _ => rfl) (fun _ => rfl) own0 (by unfold maxLen; omega) (by omega) (by omega) ?_; intro g c w4 own4 g4 hg4)
            go_roundw
            case rel =>
              have own5 : w4.ownsRow v.heap.size 49 1 (.slice (some ⟨g, 0, none⟩) (i + 1) c) (i + 1) (vs ++ [.float .f32 r3]) := own4
              exact ⟨i + 1, vs ++ [.float .f32 r3], _, _, by omega, by go_num, rfl, own5, by rw [Hid]; exact HF.out.push HV3.out, he.grown g4 (fun k hk => own_le own0 k hk)⟩
            case measure => simp [intOf]; omega
          · go_wp2_with (first | ((with_reducible show wpList _ _ _ (Oper.mk _ (Op.indexAddr _ _ _) _ _ _ _ :: Oper.mk _ (Op.load _ _) _ _ _ _ :: _) _ _); refine wl_ldF rfl rfl rfl rfl (fun _ => rfl) rfl rfl hpi hf X.out (by omega) (by have := H5.out; omega) ?_; intro r2 q2; have G2 := hid q2; clear q2) | ((with_reducible show wpList _ _ _ (Oper.mk _ (Op.call _) _ _ _ _ :: _) _ _); fail))
            refine (TanhNumber_any r2 _).mono ?_
            rintro e w3 ⟨r3, rfl, q3, e3⟩
            have hv : cn .f32 r3 = rO 3 n ws bs xs i := by rw [q3, G2.out, Int.toNat_natCast]; rfl
            have HV3 := hid hv
            clear hv q3
            replace own0 := own_ext own0 e3
            replace he := he.trans e3
            have hB := he.size
            go_wp2_with ((with_reducible show wpList _ _ _ (Oper.mk _ (Op.buildSlice _ _ _) _ _ _ _ :: Oper.mk _ (Op.call _) _ _ _ _ :: _) _ _); refine wl_app1b (u := .float .f32 r3) rfl rfl rfl rfl rfl rfl rfl (fun _ => rfl) (fun _ => rfl) own0 (by unfold maxLen; omega) (by omega) (by omega) ?_; intro g c w4 own4 g4 hg4)
            go_roundw
            case rel =>
              have own5 : w4.ownsRow v.heap.size 49 1 (.slice (some ⟨g, 0, none⟩) (i + 1) c) (i + 1) (vs ++ [.float .f32 r3]) := own4
              exact ⟨i + 1, vs ++ [.float .f32 r3], _, _, by omega, by go_num, rfl, own5, by rw [Hid]; exact HF.out.push HV3.out, he.grown g4 (fun k hk => own_le own0 k hk)⟩
            case measure => simp [intOf]; omega
        · obtain rfl : m = i := by omega
          go_wp2
          go_ret
          exact retFl_own (tab_len _ _) (own_base own0 e1.size) HF.out rfl (e1.trans he)
end Go.Proofs.Ytlimabbeaimdgaa
/- The forward pass: one layer, the second program. -/
namespace Go.Proofs.Ytlimabbeaimdgaa
set_option linter.unusedSimpArgs false
set_option linter.unusedVariables false
open Go.RowKit

end Go.Proofs.Ytlimabbeaimdgaa
/- The forward pass: a layer as a thing. -/
namespace Go.Proofs.Ytlimabbeaimdgaa
set_option linter.unusedSimpArgs false
set_option linter.unusedVariables false
open Go.RowKit

def layF (d : shLayer.T) (xs : List Nat) : List Nat := runF d.1 d.2.1.toNat d.2.2.1.toNat d.2.2.2.1 d.2.2.2.2.1 xs
theorem layD_int {d : shLayer.T} (h : layD d = true) : (d.2.1.toNat : Int) = d.2.1 ∧ (d.2.2.1.toNat : Int) = d.2.2.1 ∧ d.2.1.toNat ≤ 8 ∧ 1 ≤ d.2.1.toNat ∧ d.2.2.1.toNat ≤ 8 ∧ 1 ≤ d.2.2.1.toNat := by
  unfold layD layB inB at h
  simp only [Bool.and_eq_true, decide_eq_true_eq] at h
  omega
theorem softF_len (xs : List Nat) : (softF xs).length = xs.length := tab_len _ _
theorem normF_len (ws bs xs : List Nat) : (normF ws bs xs).length = xs.length := tab_len _ _
theorem layF_len {d : shLayer.T} (h : layD d = true) {xs : List Nat} (hx : (xs.length : Int) = d.2.1) : ((layF d xs).length : Int) = d.2.2.1 := by
  obtain ⟨a1, a2, _⟩ := layD_int h
  have h' : layB d.1 d.2.1.toNat d.2.2.1.toNat d.2.2.2.1.length d.2.2.2.2.1.length = true := by rw [a1, a2]; exact h
  obtain ⟨b0, _, _, _, _, b5, _⟩ := lay_of h'
  unfold layF runF
  split
  · rw [softF_len]; rcases b5 with b | b <;> omega
  · split
    · rw [normF_len]; rcases b5 with b | b <;> omega
    · rw [tab_len]; exact a2
theorem run_lay (cs : List Value) (d : shLayer.T) (p : Option Addr) (n c : Nat) (us : List Value) (xs : List Nat) (w : World) (h : Rep w shLayer cs d) (hv : layD d = true) (hn : xs.length = n) (hx : (n : Int) = d.2.1) (hp : Cs w p us) (hf : F32s us xs) :
    Calls Try.prog 111 #[.agg cs.toArray, .slice p n c] w (RetFl w (layF d xs)) := by
  obtain ⟨pw, cw, pb, cb, uw, ub, rfl, k1, k2, k3, k4, k5, k6⟩ := lay_nums h
  obtain ⟨a1, a2, _⟩ := layD_int hv
  have hk : layB d.1 d.2.1.toNat d.2.2.1.toNat d.2.2.2.1.length d.2.2.2.2.1.length = true := by rw [a1, a2]; exact hv
  have := run_any d.1 d.2.1.toNat d.2.2.1.toNat _ _ p pw pb c cw cb us uw ub xs d.2.2.2.1 d.2.2.2.2.1 w hk (by omega) rfl rfl hp hf k1 k2 k4 k5 k3
  rw [a1, a2, show d.2.1.toNat = n by omega] at this
  unfold layF
  rw [show d.2.1.toNat = n by omega]
  exact this
theorem layers_at {w : World} {q : Addr} {cs : List Value} {d : shLayer.T} (h : Rep w shLayer cs d) (g : ∀ (j : Nat) (v : Value), cs[j]? = some v → w.cell? (q.add j) = some v) : Calls Try.prog 127 #[.pointer (some q)] w (RetB w (layD d)) := by
  obtain ⟨pw, cw, pb, cb, rfl, k1, k2⟩ := lay_vals h
  exact l03Layer_any (sp := q.spot) q.block q.off d.1 d.2.1 d.2.2.1 pw pb _ cw _ cb w (g 0 _ rfl) (g 1 _ rfl) (g 2 _ rfl) (g 3 _ rfl) (g 4 _ rfl) k1 k2
theorem valid_at {w : World} {cs : List Value} {d : shLayer.T} (h : Rep w shLayer cs d) : Calls Try.prog 109 #[.agg cs.toArray] w (RetB w (layD d)) := by
  obtain ⟨pw, cw, pb, cb, rfl, k1, k2⟩ := lay_vals h
  exact ValidLayer_any d.1 d.2.1 d.2.2.1 pw pb _ cw _ cb w k1 k2
theorem cs_add {w : World} {q : Addr} {cs : List Value} (h : Cs w (some q) cs) (j : Nat) (v : Value) (hv : cs[j]? = some v) : w.cell? (q.add j) = some v := h.cell j v hv
/-- A list of numbers and a word. -/
theorem out_flts {w w' : World} {xs : List Nat} {e : Ending} {q : Option Addr} {c : Nat} {vs : List Value} (h : w'.ownsRow w.heap.size 49 1 (.slice q xs.length c) xs.length vs) (hf : F32s vs xs) (he : e = .returned (.tuple #[.slice q xs.length c, .bool true])) (hx : Ext w w') : OutOk w (.sl .flt) (xs, true) e w' := by
  have h1 := own_flts.2 ⟨q, c, vs, rfl, ownRow_of h, hf, (own_cap h).1, (own_cap h).2, rfl⟩
  refine ⟨[.slice q xs.length c], _, he, h1, ?_, ?_, hx⟩
  · cases q <;> simp [blocksOf]
  · intro b hb
    cases q with
    | none => simp [blocksOf] at hb
    | some a => simp [blocksOf] at hb; subst hb; exact own_le h _ rfl
end Go.Proofs.Ytlimabbeaimdgaa
/- The forward pass: layer after layer. -/
namespace Go.Proofs.Ytlimabbeaimdgaa
set_option linter.unusedSimpArgs false
set_option linter.unusedVariables false
open Go.RowKit

/-- What the first layers make of a row. -/
def curF (l : List shLayer.T) (x : List Nat) (i : Nat) : List Nat := (l.take i).foldl (fun y d => layF d y) x
theorem curF_zero (l : List shLayer.T) (x : List Nat) : curF l x 0 = x := rfl
theorem curF_succ {l : List shLayer.T} (x : List Nat) {i : Nat} (h : i < l.length) : curF l x (i + 1) = layF l[i] (curF l x i) := by
  unfold curF
  rw [List.take_add_one, List.getElem?_eq_getElem h, List.foldl_append]; rfl
/-- What layer i gets, what the last one gives. -/
def inL (l : List shLayer.T) (i : Nat) : Int := (l[i]?.map fun d => d.2.1).getD 0
def outL (l : List shLayer.T) : Int := (l[l.length - 1]?.map fun d => d.2.2.1).getD 0
theorem modGo_all {l : List shLayer.T} : ∀ {i : Nat} {p : Option Int}, modGo p l = true → ∀ (h : i < l.length), layD l[i] = true ∧ ∀ (h' : i + 1 < l.length), l[i + 1].2.1 = l[i].2.2.1 := by
  induction l with
  | nil => intro i p _ h; simp at h
  | cons d t ih =>
    intro i p hm h
    simp only [modGo, Bool.and_eq_true] at hm
    obtain ⟨h1, h2, h3⟩ := hm
    cases i with
    | zero =>
      refine ⟨h1, fun h' => ?_⟩
      cases t with
      | nil => simp at h'
      | cons d2 t2 =>
        simp only [modGo, Bool.and_eq_true, linkL, decide_eq_true_eq] at h3
        exact h3.2.1
    | succ i =>
      have := ih (i := i) h3 (by simpa using h)
      simpa using this
structure ModOk (l : List shLayer.T) : Prop where
  pos : 1 ≤ l.length
  few : l.length ≤ 6
  lay : ∀ i (h : i < l.length), layD l[i] = true
  link : ∀ i (h : i + 1 < l.length), l[i + 1].2.1 = (l[i]'(by omega)).2.2.1
theorem modOk {l : List shLayer.T} (h : modB l = true) : ModOk l := by
  unfold modB at h
  simp only [Bool.and_eq_true, decide_eq_true_eq] at h
  obtain ⟨h1, h2, h3⟩ := h
  exact ⟨h1, h2, fun i hi => (modGo_all h3 hi).1, fun i hi => (modGo_all h3 (by omega)).2 hi⟩
theorem cur_len {l : List shLayer.T} (h : ModOk l) {x : List Nat} (hx : (x.length : Int) = inL l 0) : ∀ i (hi : i < l.length), ((curF l x i).length : Int) = l[i].2.1
  | 0, hi => by rw [curF_zero, hx]; unfold inL; simp [hi]
  | i + 1, hi => by
    rw [curF_succ x (by omega), h.link i hi]
    exact layF_len (h.lay i (by omega)) (cur_len h hx i (by omega))
theorem cur_out {l : List shLayer.T} (h : ModOk l) {x : List Nat} (hx : (x.length : Int) = inL l 0) : ((curF l x l.length).length : Int) = outL l := by
  have hp := h.pos
  obtain ⟨n, hn⟩ : ∃ n, l.length = n + 1 := ⟨l.length - 1, by omega⟩
  have h1 : ((curF l x (n + 1)).length : Int) = (l[n]'(by omega)).2.2.1 := by
    rw [curF_succ x (by omega)]
    exact layF_len (h.lay n (by omega)) (cur_len h hx n (by omega))
  unfold outL
  rw [hn, h1]
  simp [show n < l.length by omega]
/-- The stages. -/
def stF (l : List shLayer.T) (x : List Nat) (i : Nat) : List (List Nat) := (List.range i).map fun j => curF l x (j + 1)
theorem stF_len (l : List shLayer.T) (x : List Nat) (i : Nat) : (stF l x i).length = i := by simp [stF]
theorem stF_succ (l : List shLayer.T) (x : List Nat) (i : Nat) : stF l x (i + 1) = stF l x i ++ [curF l x (i + 1)] := by simp [stF, List.range_succ]

/-- A list of numbers of one's own, as a thing. -/
theorem retFl_thing {w w' : World} {xs : List Nat} {e : Ending} (h : RetFl w xs e w') : ∃ q c bs, e = .returned (.slice q xs.length c) ∧ Own w' (.sl .flt) [.slice q xs.length c] xs bs ∧ bs.Nodup ∧ (∀ b ∈ bs, w.heap.size ≤ b) ∧ Ext w w' := by
  obtain ⟨q, c, vs, he, ho, hf, hx⟩ := h
  refine ⟨q, c, blocksOf q, he, own_flts.2 ⟨q, c, vs, rfl, ownRow_of ho, hf, (own_cap ho).1, (own_cap ho).2, rfl⟩, ?_, ?_, hx⟩
  · cases q <;> simp [blocksOf]
  · intro b hb
    cases q with
    | none => simp [blocksOf] at hb
    | some a => simp [blocksOf] at hb; subst hb; exact own_le ho _ rfl
theorem rep_flt1 {w : World} {q : Option Addr} {n c : Nat} {xs : List Nat} (h : Rep w (.sl .flt) [.slice q n c] xs) : ∃ us, xs.length = n ∧ Cs w q us ∧ F32s us xs ∧ xs.length ≤ c := by
  obtain ⟨q', c', us, h1, h2, h3, h4, _⟩ := rep_flts.1 h
  simp only [List.cons.injEq, Value.slice.injEq, and_true] at h1
  obtain ⟨rfl, rfl, rfl⟩ := h1
  exact ⟨us, rfl, h2, h3, h4⟩
/-- The last element of a list that grows. -/
theorem GrowOwn.last {w : World} {B : Nat} {te : TypeId} {E : Sh} {v : Value} {l : List E.T} {css : List (List Value)} {bss : List (List Nat)} {cs : List Value} {d : E.T} {bs : List Nat} (h : GrowOwn w B te E v (l ++ [d]) (css ++ [cs]) (bss ++ [bs])) (h1 : css.length = l.length) (h2 : bss.length = l.length) : Rep w E cs d :=
  (h.els.2.2 l.length cs bs d (by rw [← h1]; simp) (by rw [← h2]; simp) (by simp)).rep

set_option maxRecDepth 100000 in
set_option maxHeartbeats 1000000 in
theorem l02Own_any (p : Option Addr) (n c : Nat) (us : List Value) (xs : List Nat) (w : World) (hx : xs.length = n) (hn : n ≤ 1073741824) (hc : n ≤ c) (hp : Cs w p us) (hf : F32s us xs) : Calls Try.prog 129 #[.slice p n c] w (RetFl w xs) := by
  have hstart : (w.alloc (.cells #[] 49)).ownsRow w.heap.size 49 1 (.slice (some ⟨w.heap.size, 0, none⟩) 0 0) 0 [] := World.ownsRow_made w #[] 0 (Nat.le_refl _) (by decide) rfl
  have e0 := Ext.alloc w (.cells #[] 49)
  have o1 := hid hf.one
  have u1 := hf.1
  have U1 := hid u1
  have HX := hid hx
  clear hx u1
  go_enter Try.func129, Try.ntmps129
  go_wp2_with ((with_reducible show wpList _ _ _ (Oper.mk _ (Op.call _) _ _ _ _ :: _) _ _); refine wl_appz rfl rfl rfl rfl hstart (hp.ext e0) (by rw [U1.out, HX.out, Nat.mul_one]) hc o1.out (by unfold maxLen; omega) (by omega) (by simp) ?_; intro v1 w1 own1 g1)
  go_ret
  rw [Nat.zero_add, List.nil_append] at own1
  exact retFl_of HX.out own1 hf rfl (e0.grown g1 (fun k hk => own_le hstart k hk))
set_option maxRecDepth 100000 in
set_option maxHeartbeats 4000000 in
theorem stages_any (p q0 : Option Addr) (n c m0 c0 : Nat) (css : List (List Value)) (l : List shLayer.T) (x : List Nat) (w : World) (L : Lays w p n css l) (hM : ModOk l) (hX : Rep w (.sl .flt) [.slice q0 m0 c0] x) (hx : (x.length : Int) = inL l 0) :
    Calls Try.prog 104 #[.agg #[.slice p n c], .slice q0 m0 c0] w fun e w' => ∃ v css bss, e = .returned v ∧ GrowOwn w' w.heap.size 43 (.sl .flt) v (stF l x n) css bss ∧ Ext w w' := by
  have hn : n ≤ 6 := by have := hM.few; rw [L.len] at this; exact this
  have HL := hid L.len
  have Hlay := hid hM.lay
  have Hlen := hid (cur_len hM hx)
  have Hs := hid (fun i => @curF_succ l x i)
  have eA := Ext.alloc w (.cells #[.slice p n c] 33)
  have eB := eA.trans (Ext.alloc _ (.cells #[] 43))
  have hstart : ((w.alloc (.cells #[.slice p n c] 33)).alloc (.cells #[] 43)).ownsRow w.heap.size 43 (Sh.sz (.sl .flt)) (.slice (some ⟨(w.alloc (.cells #[.slice p n c] 33)).heap.size, 0, none⟩) 0 0) 0 [] := World.ownsRow_made (w.alloc (.cells #[.slice p n c] 33)) #[] 0 eA.size (by decide) rfl
  simp only [World.size_alloc] at hstart
  have l1 := L.cs; have l2 := L.all; have l3 := L.size; have l4 := L.one; have l5 := hid L.cnt
  clear L hM hx
  go_enter Try.func104, Try.ntmps104
  go_wp2
  go_loopw [1, 5, 12] (fun xv ov iv wr => ∃ (i : Nat) (css : List (List Value)) (bss : List (List Nat)) (q : Option Addr) (mq cq : Nat), i ≤ n ∧ iv = .int .i64 i ∧ xv = .slice q mq cq ∧ Hid (Rep wr (.sl .flt) [.slice q mq cq] (curF l x i)) ∧ GrowOwn wr w.heap.size 43 (.sl .flt) ov (stF l x i) css bss ∧ Ext w wr) (fun _ _ iv _ => n - (intOf iv).toNat)
  case atStart => exact ⟨0, [], [], q0, m0, c0, by omega, rfl, rfl, hX.ext eB, GrowOwn.empty hstart, eB⟩
  case round =>
    clear hstart eA eB
    obtain ⟨i, cs, bss, q, mq, cq, hi, rfl, rfl, HX, hown, he⟩ := hrel
    by_cases hlt : i < n
    · have hil : i < l.length := by rw [HL.out]; exact hlt
      obtain ⟨ci, hci, ri⟩ := l2.get i l[i] (by simp)
      have L1 := hid ri.size
      have O1 := hid ri.one
      have hs1 := l1.some_of l3 (by decide) (show 0 < css.length by rw [l5.out]; omega)
      have hp := l1.ext he
      obtain ⟨us, x1, x2, x3, _⟩ := rep_flt1 HX.out
      have hlen := Hlen.out i hil
      rw [x1] at hlen
      have C := hid (fun W (h : Ext wr W) => run_lay ci l[i] q mq cq us (curF l x i) W (ri.ext (he.trans h)) (Hlay.out i hil) x1 hlen (x2.ext h) x3)
      rw [← Hs.out i hil] at C
      have hrow := hown.row
      rw [stF_len] at hrow
      clear x1 x2 x3 hlen ri
      have E1 := hid hci
      clear hci
      go_wp2_with (first | ((with_reducible show wpList _ _ _ (Oper.mk _ (Op.indexAddr _ _ _) _ _ _ _ :: Oper.mk _ (Op.load _ _) _ _ _ _ :: _) _ _); refine wl_idxloadE (s := shLayer) (j := i) rfl rfl rfl rfl (fun _ => rfl) rfl rfl rfl hp l3 l5.out hlt hs1 E1.out ?_) | ((with_reducible show wpList _ _ _ (Oper.mk _ (Op.store _ _ _) _ _ _ _ :: _) _ _); refine wl_stA (s := shLayer) (cs := ci) rfl rfl rfl rfl (heap_alloc_new _ _) rfl L1.out O1.out (by decide) ?_; intro w5 c5 ch5; have E5 : Ext wr w5 := (Ext.alloc _ _).chg ch5 (fun b hb => by subst hb; exact Nat.le_refl _); clear ch5) | ((with_reducible show wpList _ _ _ (Oper.mk _ (Op.load _ _) _ _ _ _ :: _) _ _); refine wl_ldA (s := shLayer) (cs := ci) rfl rfl rfl c5 L1.out ?_; simp only [ofCs, Sh.agg, if_true]))
      refine (C.out _ E5).mono ?_
      intro e w6 h6
      obtain ⟨q6, c6, b6, rfl, o6, n6, lo6, e6⟩ := retFl_thing h6
      have E6 := E5.trans e6
      obtain ⟨m6, hm6⟩ : ∃ m, m = (curF l x (i + 1)).length := ⟨_, rfl⟩
      rw [← hm6] at o6 ⊢
      have HM6 := hid hm6
      clear hm6
      go_wp2_with ((with_reducible show wpList _ _ _ (Oper.mk _ (Op.buildSlice _ _ _) _ _ _ _ :: Oper.mk _ (Op.call _) _ _ _ _ :: _) _ _); refine wl_app1b (u := .slice q6 m6 c6) rfl rfl rfl rfl rfl (by rfl) (by rfl) (fun _ => rfl) (fun _ => rfl) (own_ext hrow E6) (by unfold maxLen; omega) (by omega) (by have := he.size; have := E6.size; omega) ?_; intro g c w7 h7 g7 hw7)
      go_roundw
      case rel =>
        have k1 := hown.els.1
        have k2 := hown.els.2.1
        have H7 := hown.snoc E6 o6 n6 (fun b hb => Nat.le_trans E5.size (lo6 b hb)) he.size (stF_len _ _ _) h7 g7 hw7
        refine ⟨i + 1, cs ++ [[.slice q6 m6 c6]], bss ++ [b6], q6, m6, c6, by omega, by go_num, rfl, H7.last k1 k2, ?_, (he.trans E6).grown g7 (own_le hrow)⟩
        rw [stF_succ]; exact H7
      case measure => simp [intOf]; omega
    · obtain rfl : n = i := by omega
      go_wp2
      go_ret
      exact ⟨_, cs, bss, rfl, hown, he⟩
end Go.Proofs.Ytlimabbeaimdgaa
/- What a model takes and gives. -/
namespace Go.Proofs.Ytlimabbeaimdgaa
set_option linter.unusedSimpArgs false
set_option linter.unusedVariables false
open Go.RowKit

/-- A layer of a list, its cells. -/
theorem Lays.at {w : World} {p : Option Addr} {n : Nat} {css : List (List Value)} {l : List shLayer.T} (h : Lays w p n css l) {i : Nat} (hi : i < n) : ∃ ci, css[i]? = some ci ∧ ci[1]? = some (.int .i64 (inL l i)) ∧ ci[2]? = some (.int .i64 ((l[i]?.map fun d => d.2.2.1).getD 0)) ∧ p.isSome = true := by
  have hl := h.len
  obtain ⟨ci, hci, ri⟩ := h.all.get i (l[i]'(by omega)) (by simp)
  have hs := h.cs.some_of h.size (by decide) (show i < css.length by rw [h.cnt]; exact hi)
  obtain ⟨pw, cw, pb, cb, rfl, _, _⟩ := lay_vals ri
  exact ⟨_, hci, by unfold inL; simp [show i < l.length by omega], by simp [show i < l.length by omega], hs⟩
set_option maxRecDepth 100000 in
set_option maxHeartbeats 1000000 in
theorem in_any (p : Option Addr) (n c : Nat) (css : List (List Value)) (l : List shLayer.T) (w : World) (L : Lays w p n css l) (h1 : 1 ≤ n) : Calls Try.prog 100 #[.agg #[.slice p n c]] w fun e w' => e = .returned (.int .i64 (inL l 0)) ∧ Ext w w' := by
  obtain ⟨ci, k1, k2, _, k4⟩ := L.at (i := 0) (by omega)
  have l1 := L.cs.ext (Ext.alloc w (.cells #[.slice p n c] 33)); have l3 := L.size; have l5 := hid L.cnt
  generalize inL l 0 = v at *
  clear L
  have K1 := hid k1
  have K2 := hid k2
  clear k1 k2
  go_enter Try.func100, Try.ntmps100
  go_wp2_with ((with_reducible show wpList _ _ _ (Oper.mk _ (Op.indexAddr _ _ _) _ _ _ _ :: Oper.mk _ (Op.fieldAddr _ _ _) _ _ _ _ :: _) _ _); refine wl_ldField (f := 1) (off := 1) (j := 0) rfl rfl rfl rfl rfl rfl (fun _ => rfl) (fun _ _ => rfl) fo_implLayer_1 rfl rfl rfl l1 l3 l5.out (by omega) k4 K1.out K2.out ?_)
  go_ret
  exact ⟨rfl, Ext.alloc _ _⟩
theorem outL_eq {l : List shLayer.T} {n : Nat} (h : l.length = n) : ((l[n - 1]?.map fun d => d.2.2.1).getD 0) = outL l := by subst h; rfl
set_option maxRecDepth 100000 in
set_option maxHeartbeats 1000000 in
theorem out_any (p : Option Addr) (n c : Nat) (css : List (List Value)) (l : List shLayer.T) (w : World) (L : Lays w p n css l) (h1 : 1 ≤ n) : Calls Try.prog 149 #[.agg #[.slice p n c]] w fun e w' => e = .returned (.int .i64 (outL l)) ∧ Ext w w' := by
  obtain ⟨ci, k1, _, k2, k4⟩ := L.at (i := n - 1) (by omega)
  rw [outL_eq L.len] at k2
  have hn := L.le
  unfold maxLen at hn
  have l1 := L.cs.ext (Ext.alloc w (.cells #[.slice p n c] 33)); have l3 := L.size; have l5 := hid L.cnt
  generalize outL l = v at *
  clear L
  have K1 := hid k1
  have K2 := hid k2
  clear k1 k2
  go_enter Try.func149, Try.ntmps149
  go_wp2_with ((with_reducible show wpList _ _ _ (Oper.mk _ (Op.indexAddr _ _ _) _ _ _ _ :: Oper.mk _ (Op.fieldAddr _ _ _) _ _ _ _ :: _) _ _); refine wl_ldField (f := 2) (off := 2) (j := n - 1) rfl rfl rfl rfl rfl rfl (fun _ => rfl) (fun _ _ => rfl) fo_implLayer_2 rfl rfl (by omega) l1 l3 l5.out (by omega) k4 K1.out K2.out ?_)
  go_ret
  exact ⟨rfl, Ext.alloc _ _⟩
set_option maxRecDepth 100000 in
set_option maxHeartbeats 1000000 in
theorem l03Out_any {sp : Option Nat} (bl o' : Nat) (p : Option Addr) (n c : Nat) (css : List (List Value)) (l : List shLayer.T) (w : World) (L : Lays w p n css l) (h1 : 1 ≤ n) (f0 : w.cell? ⟨bl, o', sp⟩ = some (.slice p n c)) : Calls Try.prog 147 #[.pointer (some ⟨bl, o', sp⟩)] w fun e w' => e = .returned (.int .i64 (outL l)) ∧ Ext w w' := by
  obtain ⟨ci, k1, _, k2, k4⟩ := L.at (i := n - 1) (by omega)
  rw [outL_eq L.len] at k2
  have hn := L.le
  unfold maxLen at hn
  have l1 := L.cs.ext (Ext.drew w); have l3 := L.size; have l5 := hid L.cnt
  have g0 := (Ext.drew w).cell f0
  generalize outL l = v at *
  clear L
  have K1 := hid k1
  have K2 := hid k2
  have hw : IntKind.i64.wrap ((n : Int) - 1) = (n : Int) - 1 := wrap_in _ (by omega) (by omega)
  clear k1 k2
  go_enter Try.func147, Try.ntmps147
  go_wp2
  refine wp_region_xall (F := fun _ _ _ => False) (by kernel_rfl) (by kernel_rfl) (by kernel_rfl) ?_
  intro wf hwf
  repeat (first
    | (refine x_skip rfl ?_; simp only [Act.put, ev_tmp, List.setIfInBounds_toArray, List.set_cons_succ, List.set_cons_zero, List.getD_cons_succ, List.getD_cons_zero])
    | (refine x_mv rfl rfl rfl ?_; simp only [Act.put, ev_tmp, List.setIfInBounds_toArray, List.set_cons_succ, List.set_cons_zero, List.getD_cons_succ, List.getD_cons_zero])
    | (refine x_as rfl rfl rfl ?_; simp only [Act.put, ev_tmp, List.setIfInBounds_toArray, List.set_cons_succ, List.set_cons_zero, List.getD_cons_succ, List.getD_cons_zero])
    | ((with_reducible show wpX _ _ _ _ _ _ (Oper.mk _ (Op.indexAddr _ _ _) _ _ _ _ :: Oper.mk _ (Op.fieldAddr _ _ _) _ _ _ _ :: Oper.mk _ (Op.load _ _) _ _ _ _ :: _) _); refine x_ldField (f := 2) (off := 2) (j := n - 1) rfl rfl (fun _ => rfl) rfl (fun _ _ => rfl) rfl (fun _ => rfl) (fun _ _ => rfl) fo_implLayer_2 rfl rfl (by omega) l1 l3 l5.out (by omega) k4 K1.out K2.out ?_; simp only [Act.put, ev_tmp, List.setIfInBounds_toArray, List.set_cons_succ, List.set_cons_zero, List.getD_cons_succ, List.getD_cons_zero])
    | (refine x_run rfl fun K hK w1 hw1 => ?_; have k0 := hw1.cell (g0); go_simp; refine hK _ ?_; clear hK K k0 hw1 w1))
  refine x_nil ?_
  go_wp2
  go_ret
  exact ⟨rfl, (Ext.drew _).trans hwf⟩
end Go.Proofs.Ytlimabbeaimdgaa
