/- Slots of zeros. -/
import Derived.Test.YtbdcjhhphkckcaaVTra4
import Derived.Test.YtbdcjhhphkckcaaCpyS
import Derived.Test.YtbdcjhhphkckcaaKd
namespace Go.Proofs.Ytbdcjhhphkckcaa
set_option linter.unusedSimpArgs false
set_option linter.unusedVariables false
open Go.RowKit

def emptyF (k : Int) (N : Nat) : List (List Nat) := List.replicate (slotN k) (List.replicate N 0)
theorem made_flts (n : Nat) : (madeCells (Value.float .f32 0).cells (n * 1)).toList = (List.replicate n 0).map (Value.float .f32) := by
  apply List.ext_getElem
  · simp [madeCells]
  · intro i h1 h2
    simp [madeCells, Value.cells, Nat.mod_one]
theorem f32s_zero (n : Nat) : F32s ((List.replicate n 0).map (Value.float .f32)) (List.replicate n 0) := by
  refine ⟨by simp, fun i hi => ⟨0, ?_, ?_⟩⟩
  · rw [List.length_replicate] at hi; simp [hi]
  · rw [List.length_replicate] at hi; simp [hi]; decide +kernel
theorem slotN_le (k : Int) : slotN k ≤ 2 := by unfold slotN; split <;> (try split) <;> omega
theorem own_zero {w : World} {B N g : Nat} (h : w.ownsRow B 22 1 (.slice (some ⟨g, 0, none⟩) N N) N (madeCells (Value.float .f32 0).cells (N * 1)).toList) : Own w (.sl .flt) [.slice (some ⟨g, 0, none⟩) N N] (List.replicate N 0) [g] := by
  rw [made_flts] at h
  exact own_flts.2 ⟨some ⟨g, 0, none⟩, N, _, by simp, by simpa using ownRow_of h, f32s_zero N, by simp, by have := (own_cap h).2; exact this, rfl⟩
/-- One list of zeros more. -/
theorem empty_step {B i N g8 g9 c9 : Nat} {q6 : Option Addr} {c6 : Nat} {wr w8 w9 : World} {cs : List (List Value)} {bss : List (List Nat)} (hG : GrowOwn wr B 25 (.sl .flt) (.slice q6 i c6) (List.replicate i (List.replicate N 0)) cs bss) (hT : Tys wr [22] bss.flatten) (hB : B ≤ wr.heap.size)
    (own8 : w8.ownsRow wr.heap.size 22 1 (.slice (some ⟨g8, 0, none⟩) N N) N (madeCells (Value.float .f32 0).cells (N * 1)).toList) (e8 : Ext wr w8) (own9 : w9.ownsRow B 25 (Sh.sz (.sl .flt)) (.slice (some ⟨g9, 0, none⟩) (i + 1) c9) (i + 1) (cs.flatten ++ [.slice (some ⟨g8, 0, none⟩) N N]))
    (gr9 : w8.grownBy w9 (Value.slice q6 i c6).ownBlock) (hw9 : (Value.slice q6 i c6).ownBlock = some g9 ∨ g9 = w8.heap.size + 1) :
    ∃ cs' bss', GrowOwn w9 B 25 (.sl .flt) (.slice (some ⟨g9, 0, none⟩) (i + 1) c9) (List.replicate (i + 1) (List.replicate N 0)) cs' bss' ∧ Tys w9 [22] bss'.flatten := by
  have hf8 := own_le own8 _ rfl
  have ht8 := own_tys own8
  have oi := own_zero own8
  have hrow := hG.row
  have H9 := hG.snoc e8 oi (by simp) (fun b hb => by simp at hb; subst hb; exact hf8) hB (n := i) (by simp) own9 gr9 hw9
  rw [← List.replicate_succ'] at H9
  refine ⟨_, _, H9, ?_⟩
  have hh : (bss ++ [[g8]]).flatten = bss.flatten ++ [g8] := by simp
  rw [hh]
  refine ((hT.ext e8).app (by simpa [blocksOf] using ht8)).chg (.of_grown gr9) (fun b hb h => ?_)
  rcases List.mem_append.1 hb with hb | hb
  · exact (hG.lo b hb).2 h.symm
  · have hlt2 := own_lt hrow b h.symm
    have hb' : b = g8 := by simpa using hb
    subst hb'
    have hf9 : wr.heap.size ≤ b := hf8
    omega
set_option maxRecDepth 100000 in
set_option maxHeartbeats 1000000 in
theorem EmptySlots_no (k : Int) (f1 f2 f3 f4 N : Nat) (w : World) (h : (inB k 0 4 && decide (N ≤ 256)) = false) :
    Calls Try.prog 73 #[.agg #[.int .i64 k, .float .f32 f1, .float .f32 f2, .float .f32 f3, .float .f32 f4], .int .i64 N] w fun e w' => e = .returned (.tuple #[.slice none 0 0, .bool false]) ∧ Ext w w' := by
  have C := hid (fun W => ValidOptimizer_any k f1 f2 f3 f4 W)
  have D := hid (fun W => within_any N 0 256 W)
  have hd : inB (N : Int) 0 256 = decide (N ≤ 256) := by unfold inB; rw [Bool.eq_iff_iff]; simp; omega
  rw [hd] at D
  cases hb : inB k 0 4
  · rw [hb] at C
    clear hb h hd
    go_enter Try.func73, Try.ntmps73
    go_wp2_with (first
      | ((with_reducible show wpList _ _ _ (Oper.mk _ (Op.box _ _) _ _ _ _ :: _) _ _); refine wl_box (s := shOptimizer) (cs := [.int .i64 k, .float .f32 f1, .float .f32 f2, .float .f32 f3, .float .f32 f4]) rfl rfl rfl rfl (by simp [Value.oneCell']) ?_; intro b0 v0 g0 _ d0)
      | ((with_reducible show wpList _ _ _ (Oper.mk _ (Op.load _ _) _ _ _ _ :: _) _ _); refine wl_ldA (s := shOptimizer) (cs := [.int .i64 k, .float .f32 f1, .float .f32 f2, .float .f32 f3, .float .f32 f4]) rfl rfl rfl d0 rfl ?_))
    refine (C.out _).mono ?_
    rintro e w1 ⟨rfl, e1⟩
    go_wp2
    go_ret2
    exact ⟨rfl, g0.trans e1⟩
  · rw [hb] at C
    rw [hb, Bool.true_and] at h
    rw [h] at D
    clear hb h hd
    go_enter Try.func73, Try.ntmps73
    go_wp2_with (first
      | ((with_reducible show wpList _ _ _ (Oper.mk _ (Op.box _ _) _ _ _ _ :: _) _ _); refine wl_box (s := shOptimizer) (cs := [.int .i64 k, .float .f32 f1, .float .f32 f2, .float .f32 f3, .float .f32 f4]) rfl rfl rfl rfl (by simp [Value.oneCell']) ?_; intro b0 v0 g0 _ d0)
      | ((with_reducible show wpList _ _ _ (Oper.mk _ (Op.load _ _) _ _ _ _ :: _) _ _); refine wl_ldA (s := shOptimizer) (cs := [.int .i64 k, .float .f32 f1, .float .f32 f2, .float .f32 f3, .float .f32 f4]) rfl rfl rfl d0 rfl ?_))
    refine (C.out _).mono ?_
    rintro e w1 ⟨rfl, e1⟩
    go_wp2_with fail
    refine (D.out _).mono ?_
    rintro e w2 ⟨rfl, rfl⟩
    go_wp2
    go_ret2
    exact ⟨rfl, g0.trans e1⟩
set_option maxRecDepth 100000 in
set_option maxHeartbeats 4000000 in
theorem EmptySlots_yes (k : Int) (f1 f2 f3 f4 N : Nat) (w : World) (hk : inB k 0 4 = true) (hN : N ≤ 256) :
    Calls Try.prog 73 #[.agg #[.int .i64 k, .float .f32 f1, .float .f32 f2, .float .f32 f3, .float .f32 f4], .int .i64 N] w fun e w' => ∃ q c, e = .returned (.tuple #[.slice q (slotN k) c, .bool true]) ∧ IsOwnY [25, 22] w.heap.size (.sl (.sl .flt)) w' [.slice q (slotN k) c] (emptyF k N) ∧ Ext w w' := by
  have C := hid (fun W => ValidOptimizer_any k f1 f2 f3 f4 W)
  have D := hid (fun W => within_any N 0 256 W)
  have S := hid (fun W => slots_any k f1 f2 f3 f4 W)
  have hd : inB (N : Int) 0 256 = true := by rw [inB_true]; omega
  have h2 := slotN_le k
  rw [hd] at D
  rw [hk] at C
  unfold emptyF
  generalize slotN k = n at *
  clear hd hk
  go_enter Try.func73, Try.ntmps73
  go_wp2_with (first
    | ((with_reducible show wpList _ _ _ (Oper.mk _ (Op.box _ _) _ _ _ _ :: _) _ _); refine wl_box (s := shOptimizer) (cs := [.int .i64 k, .float .f32 f1, .float .f32 f2, .float .f32 f3, .float .f32 f4]) rfl rfl rfl rfl (by simp [Value.oneCell']) ?_; intro b0 v0 g0 _ d0)
    | ((with_reducible show wpList _ _ _ (Oper.mk _ (Op.load _ _) _ _ _ _ :: _) _ _); refine wl_ldA (s := shOptimizer) (cs := [.int .i64 k, .float .f32 f1, .float .f32 f2, .float .f32 f3, .float .f32 f4]) rfl rfl rfl d0 rfl ?_))
  refine (C.out _).mono ?_
  rintro e w1 ⟨rfl, e1⟩
  replace d0 := d0.ext e1
  replace g0 := g0.trans e1
  go_wp2_with fail
  refine (D.out _).mono ?_
  rintro e w2 ⟨rfl, rfl⟩
  have hst : (w1.alloc (.cells #[] 25)).ownsRow w1.heap.size 25 (Sh.sz (.sl .flt)) (.slice (some ⟨w1.heap.size, 0, none⟩) 0 0) 0 [] := World.ownsRow_made w1 #[] 0 (Nat.le_refl _) (by decide) rfl
  have e3 := g0.trans (Ext.alloc w1 (.cells #[] 25))
  replace d0 := d0.ext (Ext.alloc w1 (.cells #[] 25))
  go_wp2_with ((with_reducible show wpList _ _ _ (Oper.mk _ (Op.load _ _) _ _ _ _ :: _) _ _); refine wl_ldA (s := shOptimizer) (cs := [.int .i64 k, .float .f32 f1, .float .f32 f2, .float .f32 f3, .float .f32 f4]) rfl rfl rfl d0 rfl ?_)
  refine (S.out _).mono ?_
  rintro e w4 ⟨rfl, e4⟩
  have hst4 := own_ext hst e4
  have e5 := e3.trans e4
  have hs4 : w1.heap.size ≤ w4.heap.size := by have := e4.size; simp at this; omega
  have hw1 := g0.size
  go_wp2_with fail
  go_loopw [6, 18] (fun ov iv wr => ∃ (i : Nat) (q6 : Option Addr) (c6 : Nat) (cs : List (List Value)) (bss : List (List Nat)), i ≤ n ∧ iv = .int .i64 i ∧ ov = .slice q6 i c6 ∧ Hid (GrowOwn wr w1.heap.size 25 (.sl .flt) (.slice q6 i c6) (List.replicate i (List.replicate N 0)) cs bss) ∧ Tys wr [22] bss.flatten ∧ Ext w wr ∧ w1.heap.size ≤ wr.heap.size) (fun _ iv _ => n - (intOf iv).toNat)
  case atStart => exact ⟨0, _, _, [], [], by omega, rfl, rfl, GrowOwn.empty hst4, fun b hb => by simp at hb, e5, hs4⟩
  case round =>
    clear hst hst4 e5 hs4 e4 e3 d0
    obtain ⟨i, q6, c6, cs, bss, hi, rfl, rfl, HG6, HT, he, hsz⟩ := hrel
    by_cases hlt : i < n
    · have hrow := HG6.out.row
      rw [List.length_replicate] at hrow
      have HTy := hid HT
      clear HT
      go_wp2_with (first | ((with_reducible show wpList _ _ _ (Oper.mk _ (Op.makeSlice _ _ _) _ _ _ _ :: _) _ _); refine wl_make wr.heap.size N rfl rfl rfl rfl (by unfold maxLen; omega) (by omega) (Nat.le_refl _) ?_; intro g8 w8 own8 e8) | ((with_reducible show wpList _ _ _ (Oper.mk _ (Op.buildSlice _ _ _) _ _ _ _ :: Oper.mk _ (Op.call _) _ _ _ _ :: _) _ _); refine wl_app1b (u := .slice (some ⟨g8, 0, none⟩) N N) rfl rfl rfl rfl rfl (by rfl) (by rfl) (fun _ => rfl) (fun _ => rfl) (own_ext hrow e8) (by unfold maxLen; omega) (by omega) (by have := e8.size; omega) ?_; intro g9 c9 w9 own9 gr9 hw9))
      go_roundw
      case rel =>
        have gs9 := gr9.size
        have es8 := e8.size
        obtain ⟨cs', bss', H9, T9⟩ := empty_step HG6.out HTy.out hsz own8 e8 own9 gr9 hw9
        exact ⟨i + 1, _, _, _, _, by omega, by go_num, rfl, H9, T9, (he.trans e8).grown gr9 (fun kk hk9 => by have := own_le hrow kk hk9; omega), by omega⟩
      case measure => simp [intOf]; omega
    · obtain rfl : i = n := by omega
      have hT := HG6.out.ownY (ts := [25, 22]) (HT.mono (by simp)) (by simp)
      go_wp2
      go_ret2
      exact ⟨q6, c6, rfl, hT.base hw1, he⟩
set_option maxRecDepth 100000 in
set_option maxHeartbeats 4000000 in
theorem l05Empty_any {sp : Option Nat} (b o : Nat) (k : Int) (N : Nat) (w : World) (hN : N ≤ 1048576) (g0 : w.cell? ⟨b, o, sp⟩ = some (.int .i64 k)) :
    Calls Try.prog 68 #[.pointer (some ⟨b, o, sp⟩), .int .i64 N] w fun e w' => ∃ q c, e = .returned (.slice q (slotN k) c) ∧ IsOwnY [25, 22] w.heap.size (.sl (.sl .flt)) w' [.slice q (slotN k) c] (emptyF k N) ∧ Ext w w' := by
  have S := hid (fun W (h : Ext w W) => l05Slots_any (sp := sp) b o k W (h.cell g0))
  have h2 := slotN_le k
  unfold emptyF
  generalize slotN k = n at *
  have hst : (w.alloc (.cells #[] 25)).ownsRow w.heap.size 25 (Sh.sz (.sl .flt)) (.slice (some ⟨w.heap.size, 0, none⟩) 0 0) 0 [] := World.ownsRow_made w #[] 0 (Nat.le_refl _) (by decide) rfl
  have e3 := Ext.alloc w (.cells #[] 25)
  clear g0
  go_enter Try.func68, Try.ntmps68
  go_wp2_with fail
  go_loopw [5, 6] (fun ov iv wr => ∃ (i : Nat) (q6 : Option Addr) (c6 : Nat) (cs : List (List Value)) (bss : List (List Nat)), i ≤ n ∧ iv = .int .i64 i ∧ ov = .slice q6 i c6 ∧ Hid (GrowOwn wr w.heap.size 25 (.sl .flt) (.slice q6 i c6) (List.replicate i (List.replicate N 0)) cs bss) ∧ Tys wr [22] bss.flatten ∧ Ext w wr) (fun _ iv _ => n - (intOf iv).toNat)
  case atStart => exact ⟨0, _, _, [], [], by omega, rfl, rfl, GrowOwn.empty hst, fun b hb => by simp at hb, e3⟩
  case round =>
    clear hst e3
    obtain ⟨i, q6, c6, cs, bss, hi, rfl, rfl, HG6, HT, he⟩ := hrel
    have hsz := he.size
    have HTy := hid HT
    clear HT
    by_cases hlt : i < n
    · have hrow := HG6.out.row
      rw [List.length_replicate] at hrow
      go_wp2_with fail
      refine (S.out _ he).mono ?_
      rintro e w5 ⟨rfl, rfl⟩
      go_wp2_with (first | ((with_reducible show wpList _ _ _ (Oper.mk _ (Op.makeSlice _ _ _) _ _ _ _ :: _) _ _); refine wl_make wr.heap.size N rfl rfl rfl rfl (by unfold maxLen; omega) (by omega) (Nat.le_refl _) ?_; intro g8 w8 own8 e8) | ((with_reducible show wpList _ _ _ (Oper.mk _ (Op.buildSlice _ _ _) _ _ _ _ :: Oper.mk _ (Op.call _) _ _ _ _ :: _) _ _); refine wl_app1b (u := .slice (some ⟨g8, 0, none⟩) N N) rfl rfl rfl rfl rfl (by rfl) (by rfl) (fun _ => rfl) (fun _ => rfl) (own_ext hrow e8) (by unfold maxLen; omega) (by omega) (by have := e8.size; omega) ?_; intro g9 c9 w9 own9 gr9 hw9))
      go_roundw
      case rel =>
        have gs9 := gr9.size
        have es8 := e8.size
        obtain ⟨cs', bss', H9, T9⟩ := empty_step HG6.out HTy.out hsz own8 e8 own9 gr9 hw9
        exact ⟨i + 1, _, _, _, _, by omega, by go_num, rfl, H9, T9, (he.trans e8).grown gr9 (fun kk hk9 => by have := own_le hrow kk hk9; omega)⟩
      case measure => simp [intOf]; omega
    · obtain rfl : i = n := by omega
      have hT := HG6.out.ownY (ts := [25, 22]) (HTy.out.mono (by simp)) (by simp)
      go_wp2_with fail
      refine (S.out _ he).mono ?_
      rintro e w5 ⟨rfl, rfl⟩
      go_wp2
      go_ret
      exact ⟨q6, c6, rfl, hT, he⟩
end Go.Proofs.Ytbdcjhhphkckcaa
