/- Plans: a dense step, the reference's way. -/
import Derived.Test.YtangnigplachdaaPRun
namespace Go.Proofs.Ytangnigplachdaa
set_option linter.unusedSimpArgs false
set_option linter.unusedVariables false
open Go.RowKit

theorem F32s.setF {us : List Value} {xs : List Nat} {i b v : Nat} (h : F32s us xs) (hb : cn .f32 b = v) : F32s (us.set i (.float .f32 b)) (xs.set i v) := by
  refine ⟨by rw [List.length_set, List.length_set]; exact h.1, fun j hj => ?_⟩
  rw [List.length_set] at hj
  by_cases hij : i = j
  · subst hij
    exact ⟨b, by rw [List.getElem?_set, if_pos rfl, if_pos (by rw [h.1]; exact hj)], by rw [hb]; simp [List.getD_eq_getElem?_getD, List.getElem?_set, hj]⟩
  · obtain ⟨c, h1, h2⟩ := h.2 j hj
    refine ⟨c, by rw [List.getElem?_set, if_neg hij]; exact h1, ?_⟩
    rw [h2, List.getD_eq_getElem?_getD, List.getD_eq_getElem?_getD, List.getElem?_set, if_neg hij]
theorem made_flts (n : Nat) : F32s (madeCells (Value.float .f32 0).cells (n * 1)).toList (tab n fun _ => 0) := by
  have e : (madeCells (Value.float .f32 0).cells (n * 1)).toList = List.replicate n (.float .f32 0) := by
    apply List.ext_getElem
    · simp [madeCells]
    · intro i h1 h2
      simp [madeCells, Value.cells, Nat.mod_one]
  rw [e]
  refine ⟨by simp [tab_len], fun i hi => ?_⟩
  rw [tab_len] at hi
  exact ⟨0, by simp [hi], by rw [tab_get _ hi]; exact cn0⟩
def denF (n : Nat) (ws xs : List Nat) (i j : Nat) : Nat := dotG (fun t => ws.getD (j * n + t) 0) (fun t => xs.getD t 0) i
def denO (n : Nat) (ws bs ss xs : List Nat) (rl : Bool) (j : Nat) : Nat := aftF ss rl j (fop .add .f32 (denF n ws xs n j) (bs.getD j 0))
theorem denF_zero (n : Nat) (ws xs : List Nat) : (fun _ => 0) = denF n ws xs 0 := rfl
set_option maxRecDepth 100000 in
set_option maxHeartbeats 4000000 in
theorem l09Dense_any {sp : Option Nat} (bl o' : Nat) (n m nw nb ns : Nat) (p pw pb ps : Option Addr) (c cw cb cz : Nat) (rl : Bool) (us uw ub uq : List Value) (xs ws bs ss : List Nat) (w : World) (hn1 : n ≤ 8) (hm1 : 1 ≤ m) (hm8 : m ≤ 8) (hnw : nw = n * m) (hnb : nb = m) (hns : ns = 0 ∨ ns = m ∧ rl = false)
    (hx : xs.length = n) (hw : ws.length = nw) (hb : bs.length = nb) (hs : ss.length = ns) (hp : Cs w p us) (hf : F32s us xs)
    (hpw : Cs w pw uw) (hfw : F32s uw ws) (hpb : Cs w pb ub) (hfb : F32s ub bs) (hps : Cs w ps uq) (hfs : F32s uq ss)
    (f1 : w.cell? ⟨bl, o' + 1, none⟩ = some (.int .i64 n)) (f2 : w.cell? ⟨bl, o' + 2, none⟩ = some (.int .i64 m))
    (f3 : w.cell? ⟨bl, o' + 3, none⟩ = some (.slice pw nw cw)) (f4 : w.cell? ⟨bl, o' + 4, none⟩ = some (.slice pb nb cb)) (f5 : w.cell? ⟨bl, o' + 5, none⟩ = some (.slice ps ns cz)) (f6 : w.cell? ⟨bl, o' + 6, none⟩ = some (.bool rl)) :
    Calls Try.prog 153 #[.pointer (some ⟨bl, o', sp⟩), .slice p n c] w (RetFl w (tab m (denO n ws bs ss xs rl))) := by
  have HX := hid hx
  have HW := hid hw
  have HB := hid hb
  have HS := hid hs
  have HNW := hid hnw
  have HNB := hid hnb
  clear hx hw hb hs hnw hnb
  go_enter Try.func153, Try.ntmps153
  go_wp2_with (refine wl_make w.heap.size m rfl rfl rfl rfl (by unfold maxLen; omega) (by omega) (Nat.le_refl _) ?_; intro g w1 own1 e1)
  have F1 := hid (made_flts m)
  generalize (madeCells (Value.float .f32 0).cells (m * 1)).toList = vs at *
  go_loopw [6] (fun iv wr => ∃ (i : Nat) (us : List Value), i ≤ n ∧ iv = .int .i64 i ∧ wr.ownsRow w.heap.size 106 1 (.slice (some ⟨g, 0, none⟩) m m) m us ∧ Hid (F32s us (tab m (denF n ws xs i))) ∧ Ext w wr) (fun iv _ => n - (intOf iv).toNat)
  case atStart => exact ⟨0, vs, by omega, rfl, own1, by rw [← denF_zero]; exact F1.out, e1⟩
  case round =>
    clear own1 F1 e1
    obtain ⟨i, vs, hi, rfl, own0, HF, he⟩ := hrel
    have g1 := he.cell f1
    by_cases hlt : i < n
    · go_wp2
      have own9 := own0
      clear own0
      go_loopw [24] (fun jv wq => ∃ (j : Nat) (us : List Value), j ≤ m ∧ jv = .int .i64 j ∧ wq.ownsRow w.heap.size 106 1 (.slice (some ⟨g, 0, none⟩) m m) m us ∧ Hid (F32s us (tab m (mix (denF n ws xs (i + 1)) (denF n ws xs i) j))) ∧ Ext w wq) (fun jv _ => m - (intOf jv).toNat)
      case atStart => exact ⟨0, vs, by omega, rfl, own9, by rw [tab_mix0]; exact HF.out, he⟩
      case round =>
        clear own9 HF
        obtain ⟨j, us7, hj, rfl, o7, F7, hq⟩ := hrel
        by_cases hjl : j < m
        · obtain ⟨L, hL⟩ : ∃ L : Nat, L = j * n := ⟨_, rfl⟩
          have hb1 : j * n ≤ 7 * 8 := Nat.mul_le_mul (by omega) (by omega)
          have hb2 : L + n ≤ nw := by rw [hL, HNW.out, ← Nat.succ_mul, Nat.mul_comm n m]; exact Nat.mul_le_mul_right _ (by omega)
          have m1 : (j : Int) * (n : Int) = (L : Int) := by rw [hL]; push_cast; rfl
          have hb56 : L ≤ 56 := by omega
          have q1 : IntKind.i64.wrap ((j : Int) * (n : Int)) = (L : Int) := by rw [m1]; exact wrap_in _ (by omega) (by omega)
          have q2 : IntKind.i64.wrap ((L : Int) + (i : Int)) = (L : Int) + (i : Int) := wrap_in _ (by omega) (by omega)
          have HL7 := hid (tab_len m (mix (denF n ws xs (i + 1)) (denF n ws xs i) j))
          have hg : (tab m (mix (denF n ws xs (i + 1)) (denF n ws xs i) j)).getD j 0 = denF n ws xs i j := by rw [tab_get _ hjl]; unfold mix; rw [if_neg (by omega)]
          have hstep : denF n ws xs (i + 1) j = fop .add .f32 (denF n ws xs i j) (fop .mul .f32 (ws.getD (L + i) 0) (xs.getD i 0)) := by rw [hL]; rfl
          have HG := hid hg
          have HST := hid hstep
          have hsome := (own_Cs o7).isS (by have := o7.1; intro h; rw [h] at this; simp at this; omega)
          clear hg hstep hL m1 hb1
          go_wp2
          have hD := Ext.drew wr
          have hqD := hq.trans hD
          replace o7 := own_ext o7 hD
          have t1 := own_Cs o7
          have t2 := hp.ext hqD
          have t3 := hpw.ext hqD
          have s1 := hqD.cell f1
          have s3 := hqD.cell f3
          refine wp_region_xt 25 (F := fun _ _ _ => True) (by kernel_rfl) (by kernel_rfl) (by kernel_rfl) (by kernel_rfl) (by kernel_rfl) ?_
          intro wf hwf
          simp only [List.take_succ_cons, List.take_zero, List.drop_succ_cons, List.drop_zero]
          repeat (first
            | (refine x_skip rfl ?_; simp only [Act.put, ev_tmp, List.setIfInBounds_toArray, List.set_cons_succ, List.set_cons_zero, List.getD_cons_succ, List.getD_cons_zero])
            | (refine x_mv rfl rfl rfl ?_; simp only [Act.put, ev_tmp, List.setIfInBounds_toArray, List.set_cons_succ, List.set_cons_zero, List.getD_cons_succ, List.getD_cons_zero])
            | (refine x_as rfl rfl rfl ?_; simp only [Act.put, ev_tmp, List.setIfInBounds_toArray, List.set_cons_succ, List.set_cons_zero, List.getD_cons_succ, List.getD_cons_zero])
            | ((with_reducible show wpX _ _ _ _ _ _ (Oper.mk _ (Op.indexAddr _ _ _) _ _ _ _ :: Oper.mk _ (Op.load _ _) _ _ _ _ :: _) _); refine x_ldF rfl rfl (fun _ => rfl) rfl (fun _ => rfl) rfl rfl t1 F7.out HL7.out (by omega) (by omega) ?_; intro r7 g7; have G7 := hid g7; clear g7; simp only [Act.put, ev_tmp, List.setIfInBounds_toArray, List.set_cons_succ, List.set_cons_zero, List.getD_cons_succ, List.getD_cons_zero])
            | ((with_reducible show wpX _ _ _ _ _ _ (Oper.mk _ (Op.indexAddr _ _ _) _ _ _ _ :: Oper.mk _ (Op.load _ _) _ _ _ _ :: _) _); refine x_ldF rfl rfl (fun _ => rfl) rfl (fun _ => rfl) rfl rfl t3 hfw HW.out (by omega) (by omega) ?_; intro r8 g8; have G8 := hid g8; clear g8; simp only [Act.put, ev_tmp, List.setIfInBounds_toArray, List.set_cons_succ, List.set_cons_zero, List.getD_cons_succ, List.getD_cons_zero])
            | ((with_reducible show wpX _ _ _ _ _ _ (Oper.mk _ (Op.indexAddr _ _ _) _ _ _ _ :: Oper.mk _ (Op.load _ _) _ _ _ _ :: _) _); refine x_ldF rfl rfl (fun _ => rfl) rfl (fun _ => rfl) rfl rfl t2 hf HX.out (by omega) (by omega) ?_; intro r9 g9; have G9 := hid g9; clear g9; simp only [Act.put, ev_tmp, List.setIfInBounds_toArray, List.set_cons_succ, List.set_cons_zero, List.getD_cons_succ, List.getD_cons_zero])
            | ((with_reducible show wpX _ _ _ _ _ _ (Oper.mk _ (Op.indexAddr _ _ _) _ _ _ _ :: _) _); refine x_idx rfl rfl rfl rfl hsome (by omega) (by omega) ?_; simp only [Act.put, ev_tmp, List.setIfInBounds_toArray, List.set_cons_succ, List.set_cons_zero, List.getD_cons_succ, List.getD_cons_zero])
            | ((with_reducible show wpX _ _ _ _ _ _ (Oper.mk _ (Op.binOp _ _ _ _ _) _ _ _ _ :: _) _); refine x_fop rfl rfl rfl rfl rfl ?_; first | (have zz := GA; intro rB gB; have GB := hid gB; clear gB zz) | (intro rA gA; have GA := hid gA; clear gA); simp only [Act.put, ev_tmp, List.setIfInBounds_toArray, List.set_cons_succ, List.set_cons_zero, List.getD_cons_succ, List.getD_cons_zero])
            | (refine x_run rfl fun K hK w1 hw1 => ?_; have k0 := hw1.cell (s1); have k1 := hw1.cell (s3); go_simp; refine hK _ ?_; clear hK K k0 k1 hw1 w1))
          refine x_nil ?_
          replace o7 := own_ext o7 hwf
          go_wp2_with ((with_reducible show wpList _ _ _ (Oper.mk _ (Op.store _ _ _) _ _ _ _ :: _) _ _); refine wl_stP (u := .float .f32 rB) rfl rfl rfl rfl rfl o7 (by omega) ?_; intro w9 own9 g9)
          go_roundw
          case rel =>
            refine ⟨j + 1, _, by omega, by go_num, own9, ?_, (hqD.trans hwf).grown g9 (fun k hk => own_le o7 k hk)⟩
            have a7 := G7.out
            have a8 := G8.out
            have a9 := G9.out
            rw [Int.toNat_natCast] at a7 a9
            rw [show ((L : Int) + (i : Int)).toNat = L + i by omega] at a8
            rw [HG.out] at a7
            simp only [Int.toNat_natCast, Nat.mul_one, Hid]
            exact F7.out.put hjl (by rw [GB.out, GA.out, a7, a8, a9, HST.out])
          case measure => simp [intOf]; omega
        · obtain rfl : j = m := by omega
          rw [tab_mixn] at F7
          go_wp2
          go_roundw
          case rel => exact ⟨i + 1, us7, by omega, by go_num, o7, F7, hq⟩
          case measure => simp [intOf]; omega
    · obtain rfl : i = n := by omega
      go_wp2
      have own9 := own0
      clear own0
      go_loopw [55] (fun jv wq => ∃ (j : Nat) (us : List Value), j ≤ m ∧ jv = .int .i64 j ∧ wq.ownsRow w.heap.size 106 1 (.slice (some ⟨g, 0, none⟩) m m) m us ∧ Hid (F32s us (tab m (mix (denO i ws bs ss xs rl) (denF i ws xs i) j))) ∧ Ext w wq) (fun jv _ => m - (intOf jv).toNat)
      case atStart => exact ⟨0, vs, by omega, rfl, own9, by rw [tab_mix0]; exact HF.out, he⟩
      case round =>
        clear own9 HF
        obtain ⟨j, us7, hj, rfl, o7, F7, hq⟩ := hrel
        by_cases hjl : j < m
        · have HL7 := hid (tab_len m (mix (denO i ws bs ss xs rl) (denF i ws xs i) j))
          have hg : (tab m (mix (denO i ws bs ss xs rl) (denF i ws xs i) j)).getD j 0 = denF i ws xs i j := by rw [tab_get _ hjl]; unfold mix; rw [if_neg (by omega)]
          have HG := hid hg
          have hsome := (own_Cs o7).isS (by have := o7.1; intro h; rw [h] at this; simp at this; omega)
          have hjb : j < nb := by rw [HNB.out]; exact hjl
          clear hg
          rcases hns with rfl | ⟨rfl, rfl⟩
          · cases rl
            · have hset := tab_mix (denO i ws bs ss xs false) (denF i ws xs i) hjl
              have hv : denO i ws bs ss xs false j = fop .add .f32 (denF i ws xs i j) (bs.getD j 0) := by
                unfold denO aftF
                rw [if_neg (by simp), if_pos HS.out]
              rw [hv] at hset
              have HST := hid hset
              clear hset hv
              go_wp2
              have hD := Ext.drew wr
              have hqD := hq.trans hD
              replace o7 := own_ext o7 hD
              have t1 := own_Cs o7
              have t2 := hpb.ext hqD
              have s4 := hqD.cell f4
              refine wp_region_xt 13 (F := fun _ _ _ => True) (by kernel_rfl) (by kernel_rfl) (by kernel_rfl) (by kernel_rfl) (by kernel_rfl) ?_
              intro wf hwf
              simp only [List.take_succ_cons, List.take_zero, List.drop_succ_cons, List.drop_zero]
              repeat (first
                | (refine x_skip rfl ?_; simp only [Act.put, ev_tmp, List.setIfInBounds_toArray, List.set_cons_succ, List.set_cons_zero, List.getD_cons_succ, List.getD_cons_zero])
                | (refine x_mv rfl rfl rfl ?_; simp only [Act.put, ev_tmp, List.setIfInBounds_toArray, List.set_cons_succ, List.set_cons_zero, List.getD_cons_succ, List.getD_cons_zero])
                | (refine x_as rfl rfl rfl ?_; simp only [Act.put, ev_tmp, List.setIfInBounds_toArray, List.set_cons_succ, List.set_cons_zero, List.getD_cons_succ, List.getD_cons_zero])
                | ((with_reducible show wpX _ _ _ _ _ _ (Oper.mk _ (Op.indexAddr _ _ _) _ _ _ _ :: Oper.mk _ (Op.load _ _) _ _ _ _ :: _) _); refine x_ldF rfl rfl (fun _ => rfl) rfl (fun _ => rfl) rfl rfl t1 F7.out HL7.out (by omega) (by omega) ?_; intro r7 g7; have G7 := hid g7; clear g7; simp only [Act.put, ev_tmp, List.setIfInBounds_toArray, List.set_cons_succ, List.set_cons_zero, List.getD_cons_succ, List.getD_cons_zero])
                | ((with_reducible show wpX _ _ _ _ _ _ (Oper.mk _ (Op.indexAddr _ _ _) _ _ _ _ :: Oper.mk _ (Op.load _ _) _ _ _ _ :: _) _); refine x_ldF rfl rfl (fun _ => rfl) rfl (fun _ => rfl) rfl rfl t2 hfb HB.out (by omega) (by omega) ?_; intro r8 g8; have G8 := hid g8; clear g8; simp only [Act.put, ev_tmp, List.setIfInBounds_toArray, List.set_cons_succ, List.set_cons_zero, List.getD_cons_succ, List.getD_cons_zero])
                | ((with_reducible show wpX _ _ _ _ _ _ (Oper.mk _ (Op.indexAddr _ _ _) _ _ _ _ :: _) _); refine x_idx rfl rfl rfl rfl hsome (by omega) (by omega) ?_; simp only [Act.put, ev_tmp, List.setIfInBounds_toArray, List.set_cons_succ, List.set_cons_zero, List.getD_cons_succ, List.getD_cons_zero])
                | ((with_reducible show wpX _ _ _ _ _ _ (Oper.mk _ (Op.binOp _ _ _ _ _) _ _ _ _ :: _) _); refine x_fop rfl rfl rfl rfl rfl ?_; intro rA gA; have GA := hid gA; clear gA; simp only [Act.put, ev_tmp, List.setIfInBounds_toArray, List.set_cons_succ, List.set_cons_zero, List.getD_cons_succ, List.getD_cons_zero])
                | (refine x_run rfl fun K hK w1 hw1 => ?_; have k0 := hw1.cell (s4); go_simp; refine hK _ ?_; clear hK K k0 hw1 w1))
              refine x_nil ?_
              replace o7 := own_ext o7 hwf
              have a7 := G7.out
              have a8 := G8.out
              have a9 := GA.out
              rw [Int.toNat_natCast] at a7 a8
              rw [HG.out] at a7
              rw [a7, a8] at a9
              have F9 := hid (F7.out.setF (i := j) a9)
              have hqF := hqD.trans hwf
              clear a7 a8 a9 G7 G8 GA
              go_wp2_with ((with_reducible show wpList _ _ _ (Oper.mk _ (Op.store _ _ _) _ _ _ _ :: _) _ _); refine wl_stP (u := .float .f32 rA) rfl rfl rfl rfl rfl o7 (by omega) ?_; intro w9 own9 g9; simp only [Int.toNat_natCast, Nat.mul_one] at own9; have e9 := hqF.grown g9 (fun k hk => own_le o7 k hk); have z5 := e9.cell f5; have z6 := e9.cell f6)
              go_roundw
              case rel => exact ⟨j + 1, _, by omega, by go_num, own9, by rw [← HST.out]; exact F9.out, e9⟩
              case measure => simp [intOf]; omega
            · have hset := tab_mix (denO i ws bs ss xs true) (denF i ws xs i) hjl
              have hv : denO i ws bs ss xs true j = reluF (fop .add .f32 (denF i ws xs i j) (bs.getD j 0)) := by
                unfold denO aftF
                rw [if_pos rfl]
              rw [hv] at hset
              have HST := hid hset
              clear hset hv
              go_wp2
              have hD := Ext.drew wr
              have hqD := hq.trans hD
              replace o7 := own_ext o7 hD
              have t1 := own_Cs o7
              have t2 := hpb.ext hqD
              have s4 := hqD.cell f4
              refine wp_region_xt 13 (F := fun _ _ _ => True) (by kernel_rfl) (by kernel_rfl) (by kernel_rfl) (by kernel_rfl) (by kernel_rfl) ?_
              intro wf hwf
              simp only [List.take_succ_cons, List.take_zero, List.drop_succ_cons, List.drop_zero]
              repeat (first
                | (refine x_skip rfl ?_; simp only [Act.put, ev_tmp, List.setIfInBounds_toArray, List.set_cons_succ, List.set_cons_zero, List.getD_cons_succ, List.getD_cons_zero])
                | (refine x_mv rfl rfl rfl ?_; simp only [Act.put, ev_tmp, List.setIfInBounds_toArray, List.set_cons_succ, List.set_cons_zero, List.getD_cons_succ, List.getD_cons_zero])
                | (refine x_as rfl rfl rfl ?_; simp only [Act.put, ev_tmp, List.setIfInBounds_toArray, List.set_cons_succ, List.set_cons_zero, List.getD_cons_succ, List.getD_cons_zero])
                | ((with_reducible show wpX _ _ _ _ _ _ (Oper.mk _ (Op.indexAddr _ _ _) _ _ _ _ :: Oper.mk _ (Op.load _ _) _ _ _ _ :: _) _); refine x_ldF rfl rfl (fun _ => rfl) rfl (fun _ => rfl) rfl rfl t1 F7.out HL7.out (by omega) (by omega) ?_; intro r7 g7; have G7 := hid g7; clear g7; simp only [Act.put, ev_tmp, List.setIfInBounds_toArray, List.set_cons_succ, List.set_cons_zero, List.getD_cons_succ, List.getD_cons_zero])
                | ((with_reducible show wpX _ _ _ _ _ _ (Oper.mk _ (Op.indexAddr _ _ _) _ _ _ _ :: Oper.mk _ (Op.load _ _) _ _ _ _ :: _) _); refine x_ldF rfl rfl (fun _ => rfl) rfl (fun _ => rfl) rfl rfl t2 hfb HB.out (by omega) (by omega) ?_; intro r8 g8; have G8 := hid g8; clear g8; simp only [Act.put, ev_tmp, List.setIfInBounds_toArray, List.set_cons_succ, List.set_cons_zero, List.getD_cons_succ, List.getD_cons_zero])
                | ((with_reducible show wpX _ _ _ _ _ _ (Oper.mk _ (Op.indexAddr _ _ _) _ _ _ _ :: _) _); refine x_idx rfl rfl rfl rfl hsome (by omega) (by omega) ?_; simp only [Act.put, ev_tmp, List.setIfInBounds_toArray, List.set_cons_succ, List.set_cons_zero, List.getD_cons_succ, List.getD_cons_zero])
                | ((with_reducible show wpX _ _ _ _ _ _ (Oper.mk _ (Op.binOp _ _ _ _ _) _ _ _ _ :: _) _); refine x_fop rfl rfl rfl rfl rfl ?_; intro rA gA; have GA := hid gA; clear gA; simp only [Act.put, ev_tmp, List.setIfInBounds_toArray, List.set_cons_succ, List.set_cons_zero, List.getD_cons_succ, List.getD_cons_zero])
                | (refine x_run rfl fun K hK w1 hw1 => ?_; have k0 := hw1.cell (s4); go_simp; refine hK _ ?_; clear hK K k0 hw1 w1))
              refine x_nil ?_
              replace o7 := own_ext o7 hwf
              have a7 := G7.out
              have a8 := G8.out
              have a9 := GA.out
              rw [Int.toNat_natCast] at a7 a8
              rw [HG.out] at a7
              rw [a7, a8] at a9
              have F9 := hid (F7.out.setF (i := j) a9)
              have hqF := hqD.trans hwf
              clear a7 a8 a9 G7 G8 GA
              go_wp2_with (first | ((with_reducible show wpList _ _ _ (Oper.mk _ (Op.store _ _ _) _ _ _ _ :: _) _ _); refine wl_stP (u := .float .f32 rA) rfl rfl rfl rfl rfl o7 (by omega) ?_; intro w9 own9 g9; simp only [Int.toNat_natCast, Nat.mul_one] at own9; have e9 := hqF.grown g9 (fun k hk => own_le o7 k hk); have z5 := e9.cell f5; have z6 := e9.cell f6; have t9 := own_Cs own9) | ((with_reducible show wpList _ _ _ (Oper.mk _ (Op.indexAddr _ _ _) _ _ _ _ :: Oper.mk _ (Op.load _ _) _ _ _ _ :: _) _ _); refine wl_ldF rfl rfl rfl rfl (fun _ => rfl) rfl rfl t9 F9.out (by rw [List.length_set]; exact HL7.out) (by omega) (by omega) ?_; intro r5 g5; have G5 := hid g5; clear g5) | ((with_reducible show wpList _ _ _ (Oper.mk _ (Op.call _) _ _ _ _ :: _) _ _); fail))
              refine (l03Relu_any r5 _).mono ?_
              rintro e w8 ⟨r6, rfl, g6, e8⟩
              have a5 := G5.out
              rw [Int.toNat_natCast, List.getD_eq_getElem?_getD, List.getElem?_set, if_pos rfl, if_pos (by rw [HL7.out]; exact hjl)] at a5
              simp only [Option.getD_some] at a5
              rw [a5] at g6
              have F6 := hid (F9.out.setF (i := j) g6)
              rw [List.set_set, List.set_set, HST.out] at F6
              replace own9 := own_ext own9 e8
              clear a5 g6 G5
              go_wp2_with ((with_reducible show wpList _ _ _ (Oper.mk _ (Op.indexAddr _ _ _) _ _ _ _ :: Oper.mk _ (Op.store _ _ _) _ _ _ _ :: _) _ _); refine wl_idxstore (u := .float .f32 r6) rfl rfl rfl rfl (fun _ => rfl) rfl rfl (fun _ => rfl) rfl own9 (by omega) (by omega) ?_; intro w6 own6 g10; simp only [Int.toNat_natCast] at own6)
              go_roundw
              case rel => exact ⟨j + 1, _, by omega, by go_num, own6, by rw [List.set_set]; exact F6, (e9.trans e8).grown g10 (fun k hk => own_le own9 k hk)⟩
              case measure => simp [intOf]; omega
          · have hset := tab_mix (denO i ws bs ss xs false) (denF i ws xs i) hjl
            have hv : denO i ws bs ss xs false j = fop .mul .f32 (fop .add .f32 (denF i ws xs i j) (bs.getD j 0)) (ss.getD j 0) := by
              unfold denO aftF
              rw [if_neg (by simp), if_neg (by rw [HS.out]; omega)]
            rw [hv] at hset
            have HST := hid hset
            clear hset hv
            go_wp2
            have hD := Ext.drew wr
            have hqD := hq.trans hD
            replace o7 := own_ext o7 hD
            have t1 := own_Cs o7
            have t2 := hpb.ext hqD
            have s4 := hqD.cell f4
            refine wp_region_xt 13 (F := fun _ _ _ => True) (by kernel_rfl) (by kernel_rfl) (by kernel_rfl) (by kernel_rfl) (by kernel_rfl) ?_
            intro wf hwf
            simp only [List.take_succ_cons, List.take_zero, List.drop_succ_cons, List.drop_zero]
            repeat (first
              | (refine x_skip rfl ?_; simp only [Act.put, ev_tmp, List.setIfInBounds_toArray, List.set_cons_succ, List.set_cons_zero, List.getD_cons_succ, List.getD_cons_zero])
              | (refine x_mv rfl rfl rfl ?_; simp only [Act.put, ev_tmp, List.setIfInBounds_toArray, List.set_cons_succ, List.set_cons_zero, List.getD_cons_succ, List.getD_cons_zero])
              | (refine x_as rfl rfl rfl ?_; simp only [Act.put, ev_tmp, List.setIfInBounds_toArray, List.set_cons_succ, List.set_cons_zero, List.getD_cons_succ, List.getD_cons_zero])
              | ((with_reducible show wpX _ _ _ _ _ _ (Oper.mk _ (Op.indexAddr _ _ _) _ _ _ _ :: Oper.mk _ (Op.load _ _) _ _ _ _ :: _) _); refine x_ldF rfl rfl (fun _ => rfl) rfl (fun _ => rfl) rfl rfl t1 F7.out HL7.out (by omega) (by omega) ?_; intro r7 g7; have G7 := hid g7; clear g7; simp only [Act.put, ev_tmp, List.setIfInBounds_toArray, List.set_cons_succ, List.set_cons_zero, List.getD_cons_succ, List.getD_cons_zero])
              | ((with_reducible show wpX _ _ _ _ _ _ (Oper.mk _ (Op.indexAddr _ _ _) _ _ _ _ :: Oper.mk _ (Op.load _ _) _ _ _ _ :: _) _); refine x_ldF rfl rfl (fun _ => rfl) rfl (fun _ => rfl) rfl rfl t2 hfb HB.out (by omega) (by omega) ?_; intro r8 g8; have G8 := hid g8; clear g8; simp only [Act.put, ev_tmp, List.setIfInBounds_toArray, List.set_cons_succ, List.set_cons_zero, List.getD_cons_succ, List.getD_cons_zero])
              | ((with_reducible show wpX _ _ _ _ _ _ (Oper.mk _ (Op.indexAddr _ _ _) _ _ _ _ :: _) _); refine x_idx rfl rfl rfl rfl hsome (by omega) (by omega) ?_; simp only [Act.put, ev_tmp, List.setIfInBounds_toArray, List.set_cons_succ, List.set_cons_zero, List.getD_cons_succ, List.getD_cons_zero])
              | ((with_reducible show wpX _ _ _ _ _ _ (Oper.mk _ (Op.binOp _ _ _ _ _) _ _ _ _ :: _) _); refine x_fop rfl rfl rfl rfl rfl ?_; intro rA gA; have GA := hid gA; clear gA; simp only [Act.put, ev_tmp, List.setIfInBounds_toArray, List.set_cons_succ, List.set_cons_zero, List.getD_cons_succ, List.getD_cons_zero])
              | (refine x_run rfl fun K hK w1 hw1 => ?_; have k0 := hw1.cell (s4); go_simp; refine hK _ ?_; clear hK K k0 hw1 w1))
            refine x_nil ?_
            replace o7 := own_ext o7 hwf
            have a7 := G7.out
            have a8 := G8.out
            have a9 := GA.out
            rw [Int.toNat_natCast] at a7 a8
            rw [HG.out] at a7
            rw [a7, a8] at a9
            have F9 := hid (F7.out.setF (i := j) a9)
            have hqF := hqD.trans hwf
            clear a7 a8 a9 G7 G8 GA
            go_wp2_with ((with_reducible show wpList _ _ _ (Oper.mk _ (Op.store _ _ _) _ _ _ _ :: _) _ _); refine wl_stP (u := .float .f32 rA) rfl rfl rfl rfl rfl o7 (by omega) ?_; intro w9 own9 g9; simp only [Int.toNat_natCast, Nat.mul_one] at own9; have e9 := hqF.grown g9 (fun k hk => own_le o7 k hk); have z5 := e9.cell f5; have z6 := e9.cell f6)
            have hgt : decide ((ns : Int) > 0) = true := by simp; omega
            go_wp2
            have hD9 := Ext.drew w9
            have e9D := e9.trans hD9
            replace own9 := own_ext own9 hD9
            have t9 := own_Cs own9
            have t8 := hps.ext e9D
            have s5 := e9D.cell f5
            refine wp_region_xt 15 (F := fun _ _ _ => True) (by kernel_rfl) (by kernel_rfl) (by kernel_rfl) (by kernel_rfl) (by kernel_rfl) ?_
            intro wf hwf
            simp only [List.take_succ_cons, List.take_zero, List.drop_succ_cons, List.drop_zero]
            repeat (first
              | (refine x_skip rfl ?_; simp only [Act.put, ev_tmp, List.setIfInBounds_toArray, List.set_cons_succ, List.set_cons_zero, List.getD_cons_succ, List.getD_cons_zero])
              | (refine x_mv rfl rfl rfl ?_; simp only [Act.put, ev_tmp, List.setIfInBounds_toArray, List.set_cons_succ, List.set_cons_zero, List.getD_cons_succ, List.getD_cons_zero])
              | (refine x_as rfl rfl rfl ?_; simp only [Act.put, ev_tmp, List.setIfInBounds_toArray, List.set_cons_succ, List.set_cons_zero, List.getD_cons_succ, List.getD_cons_zero])
              | ((with_reducible show wpX _ _ _ _ _ _ (Oper.mk _ (Op.indexAddr _ _ _) _ _ _ _ :: Oper.mk _ (Op.load _ _) _ _ _ _ :: _) _); refine x_ldF rfl rfl (fun _ => rfl) rfl (fun _ => rfl) rfl rfl t9 F9.out (by rw [List.length_set]; exact HL7.out) (by omega) (by omega) ?_; intro r5 g5; have G5 := hid g5; clear g5; simp only [Act.put, ev_tmp, List.setIfInBounds_toArray, List.set_cons_succ, List.set_cons_zero, List.getD_cons_succ, List.getD_cons_zero])
              | ((with_reducible show wpX _ _ _ _ _ _ (Oper.mk _ (Op.indexAddr _ _ _) _ _ _ _ :: Oper.mk _ (Op.load _ _) _ _ _ _ :: _) _); refine x_ldF rfl rfl (fun _ => rfl) rfl (fun _ => rfl) rfl rfl t8 hfs HS.out (by omega) (by omega) ?_; intro r6 g6; have G6 := hid g6; clear g6; simp only [Act.put, ev_tmp, List.setIfInBounds_toArray, List.set_cons_succ, List.set_cons_zero, List.getD_cons_succ, List.getD_cons_zero])
              | ((with_reducible show wpX _ _ _ _ _ _ (Oper.mk _ (Op.indexAddr _ _ _) _ _ _ _ :: _) _); refine x_idx rfl rfl rfl rfl hsome (by omega) (by omega) ?_; simp only [Act.put, ev_tmp, List.setIfInBounds_toArray, List.set_cons_succ, List.set_cons_zero, List.getD_cons_succ, List.getD_cons_zero])
              | ((with_reducible show wpX _ _ _ _ _ _ (Oper.mk _ (Op.binOp _ _ _ _ _) _ _ _ _ :: _) _); refine x_fop rfl rfl rfl rfl rfl ?_; intro r4 g4; have G4 := hid g4; clear g4; simp only [Act.put, ev_tmp, List.setIfInBounds_toArray, List.set_cons_succ, List.set_cons_zero, List.getD_cons_succ, List.getD_cons_zero])
              | (refine x_run rfl fun K hK w1 hw1 => ?_; have k0 := hw1.cell (s5); go_simp; refine hK _ ?_; clear hK K k0 hw1 w1))
            refine x_nil ?_
            replace own9 := own_ext own9 hwf
            have a5 := G5.out
            have a6 := G6.out
            have a4 := G4.out
            rw [Int.toNat_natCast, List.getD_eq_getElem?_getD, List.getElem?_set, if_pos rfl, if_pos (by rw [HL7.out]; exact hjl)] at a5
            simp only [Option.getD_some] at a5
            rw [Int.toNat_natCast] at a6
            rw [a5, a6, fmul_comm] at a4
            have F6 := hid (F9.out.setF (i := j) a4)
            rw [List.set_set, List.set_set, HST.out] at F6
            have e9F := e9D.trans hwf
            have z6' := e9F.cell f6
            clear a4 a5 a6 G4 G5 G6
            go_wp2_with ((with_reducible show wpList _ _ _ (Oper.mk _ (Op.store _ _ _) _ _ _ _ :: _) _ _); refine wl_stP (u := .float .f32 r4) rfl rfl rfl rfl rfl own9 (by omega) ?_; intro w6 own6 g10; simp only [Int.toNat_natCast, Nat.mul_one] at own6; have e10 := e9F.grown g10 (fun k hk => own_le own9 k hk); have y6 := e10.cell f6)
            go_roundw
            case rel => exact ⟨j + 1, _, by omega, by go_num, own6, by rw [List.set_set]; exact F6, e10⟩
            case measure => simp [intOf]; omega
        · obtain rfl : j = m := by omega
          rw [tab_mixn] at F7
          go_wp2
          go_ret
          exact retFl_own (tab_len _ _) o7 F7.out rfl hq
end Go.Proofs.Ytangnigplachdaa
