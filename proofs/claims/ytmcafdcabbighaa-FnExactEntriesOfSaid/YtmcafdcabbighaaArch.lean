/- ArchiveOf of the program and of the reference. -/
import Derived.Test.YtmcafdcabbighaaBy2
import Derived.Test.YtmcafdcabbighaaThings
import Derived.Test.YtmcafdcabbighaaHStringS
import Derived.Test.YtmcafdcabbighaaTen
namespace Go.Proofs.Ytmcafdcabbighaa.lArchiveOf
set_option linter.unusedSimpArgs false
set_option linter.unusedVariables false
open Go.RowKit

def go : List UInt8 → List ByteArray → Option (List UInt8)
  | a, [] => some a
  | a, s :: l => if s.size ≤ 20000 then go (a ++ (leB s.size 4 ++ s.data.toList)) l else none
def fin : Option (List UInt8) → ByteArray × Bool
  | some a => (⟨a.toArray⟩, true)
  | none => (⟨#[]⟩, false)
def res (l : List ByteArray) : ByteArray × Bool := if l.length ≤ 8 then fin (go [] l) else (⟨#[]⟩, false)
def Got (w : World) (r : ByteArray × Bool) (e : Ending) (w' : World) : Prop := e = .returned (.tuple #[.string r.1, .bool r.2]) ∧ Ext w w'
theorem strs_of {w : World} {cs : List Value} {D : List ByteArray} (h : Rep w (.sl .str) cs D) : ∃ p c, cs = [.slice p D.length c] ∧ Cs w p (D.map Value.string) ∧ D.length ≤ maxLen := by
  obtain ⟨p, c, h1, h2, h3, h4⟩ := rep_strs.1 h
  exact ⟨p, c, h1, h2, Nat.le_trans h3 h4⟩
theorem ba_app (a b : List UInt8) : (⟨a.toArray⟩ : ByteArray) ++ (⟨b.toArray⟩ : ByteArray) = ⟨(a ++ b).toArray⟩ := by
  apply ByteArray.ext
  rw [ByteArray.data_append]; simp
theorem ba_app2 (a : List UInt8) (b : ByteArray) : (⟨a.toArray⟩ : ByteArray) ++ b = ⟨(a ++ b.data.toList).toArray⟩ := by
  apply ByteArray.ext
  rw [ByteArray.data_append]; simp

section
variable {P : Program} {w wf : World} {ops : Array Oper} {rest : List Oper} {o : Oper} {a : Act} {Q : Act → Prop} {F : Option Tmp → World → Value → Prop}
theorem x_sadd {t t' : TypeId} {x y : Operand} {s1 s2 : ByteArray} (hw : Region.wanted o (yielded ops a.tmps) = true) (ho : o.op = .binOp .add t x y t') (hx : a.eval x = .string s1) (hy : a.eval y = .string s2) (hs : s1.size + s2.size ≤ 9223372036854775807)
    (h : wpX P ops F w wf Q rest (a.put o.dst (.string (s1 ++ s2)))) : wpX P ops F w wf Q (o :: rest) a :=
  x_pure hw (fun w1 _ => by simp [execOp, ho, hx, hy, binOp, eqGuard_arith (op := .add) rfl, run_string_add_sum w1 s1 s2 hs]) h
end
theorem own_form {w : World} {B e s n : Nat} {v : Value} {vs : List Value} (h : w.ownsRow B e s v n vs) : ∃ q c, v = .slice q n c := by
  rcases h.2 with ⟨h1, h2⟩ | ⟨g, cap, cur, h1, _⟩
  · exact ⟨none, 0, by rw [h1, h2]⟩
  · exact ⟨_, _, h1⟩

set_option maxRecDepth 100000 in
set_option maxHeartbeats 4000000 in
theorem impl_ok (cs0 : List Value) (D0 : Sh.T (.sl .str)) (w : World) (h0 : Rep w (.sl .str) cs0 D0) (f0 : Fit (.sl .str) D0) : Calls Try.prog 17 #[ofCs (.sl .str) cs0] w (Got w (res D0)) := by
  obtain ⟨p, c, rfl, h2, hm⟩ := strs_of h0
  unfold maxLen at hm
  simp only [ofCs, Sh.agg, List.headD_cons, Bool.false_eq_true, if_false]
  by_cases hl : D0.length ≤ 8
  rotate_left 1
  · have hR : res D0 = (⟨#[]⟩, false) := by unfold res; rw [if_neg hl]
    rw [hR]
    clear hR h0 h2 f0
    generalize D0.length = n at *
    go_enter Try.func17, Try.ntmps17
    go_wp2
    go_ret2
    exact ⟨rfl, Ext.refl _⟩
  have hR : res D0 = fin (go [] D0) := by unfold res; rw [if_pos hl]
  rw [hR]
  generalize hG : go [] D0 = G
  have HG := hid hG
  clear hG hR h0
  generalize hL : D0.length = n at *
  have HL := hid hL
  clear hL
  have hstart : (w.alloc (.cells #[] 5)).ownsRow w.heap.size 5 1 (.slice (some ⟨w.heap.size, 0, none⟩) 0 0) 0 [] := World.ownsRow_made w #[] 0 (Nat.le_refl _) (by decide) rfl
  have e0 := Ext.alloc w (.cells #[] 5)
  go_enter Try.func17, Try.ntmps17
  go_wp2
  go_loopw [4, 13] (fun bv iv wr => ∃ (i : Nat) (a : List UInt8) (q : Option Addr) (cq : Nat), i ≤ n ∧ iv = .int .i64 i ∧ bv = .slice q a.length cq ∧ wr.ownsRow w.heap.size 5 1 (.slice q a.length cq) a.length (byC a) ∧ a.length ≤ 20004 * i ∧ Hid (go a (D0.drop i) = G) ∧ Ext w wr) (fun _ iv _ => n - (intOf iv).toNat)
  case atStart => exact ⟨0, [], _, _, by omega, rfl, rfl, hstart, by simp, by simpa [Hid] using HG.out, e0⟩
  case round =>
    clear hstart e0
    obtain ⟨i, a, q, cq, hi, rfl, rfl, own0, hal, HI, he⟩ := hrel
    have hB := he.size
    by_cases hlt : i < n
    · have hil : i < D0.length := by rw [HL.out]; exact hlt
      have hd0 : D0.drop i = D0[i] :: D0.drop (i + 1) := List.drop_eq_getElem_cons hil
      have hst := HI.out
      rw [hd0] at hst
      clear hd0 HI
      have hb : (D0.map Value.string)[i]? = some (.string D0[i]) := by simp
      have Hb := hid hb
      have Hv := hid (show (D0.map Value.string).length = n by rw [List.length_map]; exact HL.out)
      have hcw := h2.ext he
      have hfs : ByteArray.size D0[i] ≤ maxLen := f0 _ (List.getElem_mem hil)
      unfold maxLen at hfs
      clear hb
      generalize D0[i] = b at *
      simp only [go] at hst
      by_cases hbs : ByteArray.size b ≤ 20000
      · rw [if_pos hbs] at hst
        have Hst := hid hst
        have hz : b.data.toList.length = ByteArray.size b := rfl
        clear hst hfs
        go_wp2_with ((with_reducible show wpList _ _ _ (Oper.mk _ (Op.indexAddr _ _ _) _ _ _ _ :: Oper.mk _ (Op.load _ _) _ _ _ _ :: _) _ _); refine wl_idxload rfl rfl rfl rfl (fun _ => rfl) rfl rfl hcw Hv.out (by omega) (by omega) ?_; intro u hu; rw [Int.toNat_natCast, Hb.out] at hu; cases hu)
        refine (word_any _ a.length (ByteArray.size b) w.heap.size (byC a) _ hB own0 (by omega) (by omega)).mono ?_
        rintro e w1 ⟨v1, rfl, o1, c1, b1⟩
        have e1 : Ext w w1 := he.chg c1 (fun k hk => own_le own0 k hk)
        have hB1 := e1.size
        have hl4 : (leB (ByteArray.size b : Int) 4).length = 4 := leB_length _ _
        rw [hl4] at o1
        go_wp2_with ((with_reducible show wpList _ _ _ (Oper.mk _ (Op.call _) _ _ _ _ :: _) _ _); refine wl_appStr rfl rfl rfl rfl o1 (by omega) hB1 ?_; intro v2 w2 own2 g2)
        obtain ⟨q2, c2, rfl⟩ := own_form own2
        go_roundw
        case rel =>
          have hlen : (a ++ (leB (ByteArray.size b : Int) 4 ++ b.data.toList)).length = a.length + 4 + ByteArray.size b := by rw [List.length_append, List.length_append, hl4, hz]; omega
          refine ⟨i + 1, a ++ (leB (ByteArray.size b : Int) 4 ++ b.data.toList), q2, c2, by omega, by go_num, by rw [hlen], ?_, by rw [hlen]; omega, Hst.out, e1.grown g2 (fun k hk => own_le o1 k hk)⟩
          rw [hlen, byC_append, byC_append, ← List.append_assoc]
          exact own2
        case measure => simp [intOf]; omega
      · rw [if_neg hbs] at hst
        have hst2 : G = none := hst.symm
        subst hst2
        clear hst
        go_wp2_with ((with_reducible show wpList _ _ _ (Oper.mk _ (Op.indexAddr _ _ _) _ _ _ _ :: Oper.mk _ (Op.load _ _) _ _ _ _ :: _) _ _); refine wl_idxload rfl rfl rfl rfl (fun _ => rfl) rfl rfl hcw Hv.out (by omega) (by omega) ?_; intro u hu; rw [Int.toNat_natCast, Hb.out] at hu; cases hu)
        go_ret2
        exact ⟨rfl, he⟩
    · obtain rfl : i = n := by omega
      have hst := HI.out
      rw [List.drop_of_length_le (by rw [HL.out]; exact Nat.le_refl _)] at hst
      simp only [go] at hst
      subst hst
      go_wp2_with (refine wl_bytesStr rfl rfl rfl (own_Cs own0) rfl ?_)
      go_ret2
      exact ⟨rfl, he⟩
set_option maxRecDepth 100000 in
set_option maxHeartbeats 4000000 in
theorem spec_ok (cs0 : List Value) (D0 : Sh.T (.sl .str)) (w : World) (h0 : Rep w (.sl .str) cs0 D0) (f0 : Fit (.sl .str) D0) : Calls Try.prog 15 #[ofCs (.sl .str) cs0] w (Got w (res D0)) := by
  obtain ⟨p, c, rfl, h2, hm⟩ := strs_of h0
  unfold maxLen at hm
  simp only [ofCs, Sh.agg, List.headD_cons, Bool.false_eq_true, if_false]
  by_cases hl : D0.length ≤ 8
  rotate_left 1
  · have hR : res D0 = (⟨#[]⟩, false) := by unfold res; rw [if_neg hl]
    rw [hR]
    clear hR h0 h2 f0
    generalize D0.length = n at *
    go_enter Try.func15, Try.ntmps15
    go_wp2
    go_ret2
    exact ⟨rfl, Ext.refl _⟩
  have hR : res D0 = fin (go [] D0) := by unfold res; rw [if_pos hl]
  rw [hR]
  generalize hG : go [] D0 = G
  have HG := hid hG
  clear hG hR h0
  generalize hL : D0.length = n at *
  have HL := hid hL
  clear hL
  go_enter Try.func15, Try.ntmps15
  go_wp2
  go_loopw [4, 5] (fun bv iv wr => ∃ (i : Nat) (a : List UInt8), i ≤ n ∧ iv = .int .i64 i ∧ bv = .string ⟨a.toArray⟩ ∧ a.length ≤ 20004 * i ∧ Hid (go a (D0.drop i) = G) ∧ Ext w wr) (fun _ iv _ => n - (intOf iv).toNat)
  case atStart => exact ⟨0, [], by omega, rfl, rfl, by simp, by simpa [Hid] using HG.out, Ext.refl _⟩
  case round =>
    obtain ⟨i, a, hi, rfl, rfl, hal, HI, he⟩ := hrel
    by_cases hlt : i < n
    · have hil : i < D0.length := by rw [HL.out]; exact hlt
      have hd0 : D0.drop i = D0[i] :: D0.drop (i + 1) := List.drop_eq_getElem_cons hil
      have hst := HI.out
      rw [hd0] at hst
      clear hd0 HI
      have hb : (D0.map Value.string)[i]? = some (.string D0[i]) := by simp
      have Hb := hid hb
      have Hv := hid (show (D0.map Value.string).length = n by rw [List.length_map]; exact HL.out)
      have hcw := h2.ext he
      have hfs : ByteArray.size D0[i] ≤ maxLen := f0 _ (List.getElem_mem hil)
      unfold maxLen at hfs
      clear hb
      generalize D0[i] = b at *
      simp only [go] at hst
      by_cases hbs : ByteArray.size b ≤ 20000
      · rw [if_pos hbs] at hst
        have Hst := hid hst
        have hz : b.data.toList.length = ByteArray.size b := rfl
        clear hst hfs
        have C := hid (fun W => l08Word_any (ByteArray.size b : Int) 4 W (by decide) (by omega))
        have hl4 : (leB (ByteArray.size b : Int) 4).length = 4 := leB_length _ _
        have Hs := hid (show (⟨a.toArray⟩ : ByteArray) ++ ((⟨(leB (ByteArray.size b : Int) 4).toArray⟩ : ByteArray) ++ b) = ⟨(a ++ (leB (ByteArray.size b : Int) 4 ++ b.data.toList)).toArray⟩ by rw [ba_app2, ba_app])
        generalize leB (ByteArray.size b : Int) 4 = L at *
        have hls : (⟨L.toArray⟩ : ByteArray).size = 4 := by simpa [ByteArray.size] using hl4
        have has : (⟨a.toArray⟩ : ByteArray).size = a.length := by simp [ByteArray.size]
        go_wp2_with ((with_reducible show wpList _ _ _ (Oper.mk _ (Op.indexAddr _ _ _) _ _ _ _ :: Oper.mk _ (Op.load _ _) _ _ _ _ :: _) _ _); refine wl_idxload rfl rfl rfl rfl (fun _ => rfl) rfl rfl hcw Hv.out (by omega) (by omega) ?_; intro u hu; rw [Int.toNat_natCast, Hb.out] at hu; cases hu)
        refine wp_region_xall (F := fun _ _ u => u = .string ⟨L.toArray⟩) (by kernel_rfl) (by kernel_rfl) (by kernel_rfl) ?_
        intro wf hwf
        repeat (first
          | (refine x_skip rfl ?_; simp only [Act.put, ev_tmp, List.setIfInBounds_toArray, List.set_cons_succ, List.set_cons_zero, List.getD_cons_succ, List.getD_cons_zero])
          | (refine x_mv rfl rfl rfl ?_; simp only [Act.put, ev_tmp, List.setIfInBounds_toArray, List.set_cons_succ, List.set_cons_zero, List.getD_cons_succ, List.getD_cons_zero])
          | (refine x_as rfl rfl rfl ?_; simp only [Act.put, ev_tmp, List.setIfInBounds_toArray, List.set_cons_succ, List.set_cons_zero, List.getD_cons_succ, List.getD_cons_zero])
          | (refine x_sadd (s1 := ⟨L.toArray⟩) (s2 := b) rfl rfl rfl rfl (by omega) ?_; simp only [Act.put, ev_tmp, List.setIfInBounds_toArray, List.set_cons_succ, List.set_cons_zero, List.getD_cons_succ, List.getD_cons_zero])
          | (refine x_sadd (s1 := ⟨a.toArray⟩) (s2 := (⟨L.toArray⟩ : ByteArray) ++ b) rfl rfl rfl rfl (by rw [ByteArray.size_append]; omega) ?_; simp only [Act.put, ev_tmp, List.setIfInBounds_toArray, List.set_cons_succ, List.set_cons_zero, List.getD_cons_succ, List.getD_cons_zero])
          | ((with_reducible show wpX _ _ _ _ _ _ (Oper.mk _ (Op.indexAddr _ _ _) _ _ _ _ :: Oper.mk _ (Op.load _ _) _ _ _ _ :: _) _); refine x_idxload rfl rfl (fun _ => rfl) rfl (fun _ => rfl) rfl rfl (hcw.ext (Ext.drew _)) Hv.out (by omega) (by omega) ?_; intro u hu; rw [Int.toNat_natCast, Hb.out] at hu; cases hu; simp only [Act.put, ev_tmp, List.setIfInBounds_toArray, List.set_cons_succ, List.set_cons_zero, List.getD_cons_succ, List.getD_cons_zero])
          | ((with_reducible show wpX _ _ _ _ _ _ (Oper.mk _ (Op.call _) _ _ _ _ :: _) _); refine x_callf (f := 59) (args := #[.int .i64 (ByteArray.size b), .int .i64 4]) rfl rfl Try.func59 rfl (by kernel_rfl) ?_ ?_ ?_; (focus (simp [Act.eval]; done)); (focus (intro w1 hw1; exact ((C.out w1).mono fun e w3 h => ⟨_, h.1, h.2, rfl⟩))); rintro u w3 e3 e4 rfl; simp only [Act.put, ev_tmp, List.setIfInBounds_toArray, List.set_cons_succ, List.set_cons_zero, List.getD_cons_succ, List.getD_cons_zero])
          | (refine x_run rfl fun K hK w1 hw1 => ?_; go_simp; refine hK _ ?_; clear hK K  hw1 w1))
        refine x_nil ?_
        rw [Hs.out]
        go_wp2
        go_roundw
        case rel =>
          have hlen : (a ++ (L ++ b.data.toList)).length = a.length + 4 + ByteArray.size b := by rw [List.length_append, List.length_append, hl4, hz]; omega
          exact ⟨i + 1, a ++ (L ++ b.data.toList), by omega, by go_num, rfl, by rw [hlen]; omega, Hst.out, he.trans ((Ext.drew _).trans hwf)⟩
        case measure => simp [intOf]; omega
      · rw [if_neg hbs] at hst
        have hst2 : G = none := hst.symm
        subst hst2
        clear hst
        go_wp2_with ((with_reducible show wpList _ _ _ (Oper.mk _ (Op.indexAddr _ _ _) _ _ _ _ :: Oper.mk _ (Op.load _ _) _ _ _ _ :: _) _ _); refine wl_idxload rfl rfl rfl rfl (fun _ => rfl) rfl rfl hcw Hv.out (by omega) (by omega) ?_; intro u hu; rw [Int.toNat_natCast, Hb.out] at hu; cases hu)
        go_ret2
        exact ⟨rfl, he⟩
    · obtain rfl : i = n := by omega
      have hst := HI.out
      rw [List.drop_of_length_le (by rw [HL.out]; exact Nat.le_refl _)] at hst
      simp only [go] at hst
      subst hst
      go_wp2
      go_ret2
      exact ⟨rfl, he⟩
end Go.Proofs.Ytmcafdcabbighaa.lArchiveOf
