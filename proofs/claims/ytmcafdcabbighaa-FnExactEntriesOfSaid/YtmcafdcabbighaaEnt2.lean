/- EntriesOf of the reference. -/
import Derived.Test.YtmcafdcabbighaaEnt
namespace Go.Proofs.Ytmcafdcabbighaa.lEntriesOf
set_option linter.unusedSimpArgs false
set_option linter.unusedVariables false
open Go.RowKit

/-- A reader of the reference: its text, how far it is, whether there was too little. -/
def RdAt (w : World) (b : Nat) (l : List UInt8) (t : Nat) (f : Bool) : Prop := w.heap[b]? = some (.cells #[.string ⟨l.toArray⟩, .int .i64 t, .bool f] 122 (0, 0))
theorem RdAt.c0 {w : World} {b t : Nat} {l : List UInt8} {f : Bool} (h : RdAt w b l t f) : w.cell? ⟨b, 0, none⟩ = some (.string ⟨l.toArray⟩) := by
  unfold RdAt at h; unfold World.cell?; rw [h]; rfl
theorem RdAt.c1 {w : World} {b t : Nat} {l : List UInt8} {f : Bool} (h : RdAt w b l t f) : w.cell? ⟨b, 1, none⟩ = some (.int .i64 t) := by
  unfold RdAt at h; unfold World.cell?; rw [h]; rfl
theorem RdAt.c2 {w : World} {b t : Nat} {l : List UInt8} {f : Bool} (h : RdAt w b l t f) : w.cell? ⟨b, 2, none⟩ = some (.bool f) := by
  unfold RdAt at h; unfold World.cell?; rw [h]; rfl
theorem RdAt.z {w : World} {b t : Nat} {l : List UInt8} {f : Bool} (h : RdAt w b l t f) (o : Nat) : w.frozen? ⟨b, o, none⟩ = false := by
  unfold RdAt at h; unfold World.frozen?; rw [h]; rfl
theorem RdAt.set1 {w : World} {b t : Nat} {l : List UInt8} {f : Bool} (h : RdAt w b l t f) (u : Nat) : RdAt (w.setCell ⟨b, 1, none⟩ (.int .i64 u)) b l u f := by
  unfold RdAt at h ⊢
  simp [World.setCell, Array.getElem?_modify, h]
theorem RdAt.set2 {w : World} {b t : Nat} {l : List UInt8} {f : Bool} (h : RdAt w b l t f) (g : Bool) : RdAt (w.setCell ⟨b, 2, none⟩ (.bool g)) b l t g := by
  unfold RdAt at h ⊢
  simp [World.setCell, Array.getElem?_modify, h]
theorem RdAt.blk {w : World} {b t : Nat} {l : List UInt8} {f : Bool} (h : RdAt w b l t f) : b < w.heap.size := by
  unfold RdAt at h
  by_cases hb : b < w.heap.size
  · exact hb
  · rw [Array.getElem?_eq_none (by omega)] at h; cases h
theorem RdAt.ext {w w' : World} {b t : Nat} {l : List UInt8} {f : Bool} (h : RdAt w b l t f) (e : Ext w w') : RdAt w' b l t f := by
  have hb := h.blk
  unfold RdAt at h ⊢
  rw [e.block b hb]; exact h
theorem RdAt.grown {w w' : World} {b t : Nat} {l : List UInt8} {f : Bool} {row : Option Nat} (h : RdAt w b l t f) (g : w.grownBy w' row) (hr : row ≠ some b) : RdAt w' b l t f := by
  have hb := h.blk
  unfold RdAt at h ⊢
  rw [g.block b hb (fun e => hr e.symm)]; exact h
theorem made_zero (n : Nat) : (madeCells (Value.int .u8 0).cells (n * 1)).toList = byC (List.replicate n 0) := by
  apply List.ext_getElem
  · simp [madeCells, byC]
  · intro i h1 h2
    simp [madeCells, byC, Value.cells, Nat.mod_one]

section
variable {P : Program} {w wf : World} {ops : Array Oper} {rest : List Oper} {o : Oper} {a : Act} {Q : Act → Prop} {F : Option Tmp → World → Value → Prop}
theorem x_sslice {t : TypeId} {x lo hi : Operand} {s : ByteArray} {k k' : IntKind} {i j : Int} (hw : Region.wanted o (yielded ops a.tmps) = true) (ho : o.op = .slice t x (some lo) (some hi) none) (ht : P.underlying t = some .string) (hx : a.eval x = .string s) (hlo : a.eval lo = .int k i) (hhi : a.eval hi = .int k' j) (h1 : 0 ≤ i ∧ i ≤ j) (h2 : 0 ≤ j ∧ j ≤ (s.size : Int))
    (h : wpX P ops F w wf Q rest (a.put o.dst (.string (s.extract i.toNat j.toNat)))) : wpX P ops F w wf Q (o :: rest) a :=
  x_pure hw (fun w1 _ => by simp [execOp, ho, hx, hlo, hhi, Instr.sliceAt, run_underlying ht, run_slice_string_if w1 t s k k' i j ht, h1, h2]) h
end
set_option maxRecDepth 100000 in
set_option maxHeartbeats 4000000 in
theorem take2_any (b : Nat) (l : List UInt8) (t : Nat) (f : Bool) (n : Nat) (w : World) (h : RdAt w b l t f) (hl : l.length ≤ 1073741824) (ht : t ≤ l.length) (hn : n ≤ 1048576) :
    Calls Try.prog 106 #[.pointer (some ⟨b, 0, none⟩), .int .i64 n] w fun e w' =>
      e = .returned (.string ⟨(if (l.drop t).length < n then List.replicate n 0 else (l.drop t).take n).toArray⟩) ∧ RdAt w' b l (if (l.drop t).length < n then t else t + n) (f || decide ((l.drop t).length < n)) ∧ Chg (fun k => k = b) w w' := by
  have hz := ba_size l
  have hdl : (l.drop t).length = l.length - t := List.length_drop
  have r1 := h.ext (Ext.drew w)
  have c0 := r1.c0
  have c1 := r1.c1
  have hblk := h.blk
  have hwr : IntKind.i64.wrap ((l.length : Int) - t) = (l.length : Int) - t := wrap_in _ (by omega) (by omega)
  by_cases hlt : (l.drop t).length < n
  · rw [if_pos hlt, if_pos hlt, decide_eq_true hlt, Bool.or_true]
    have hlt2 : (l.length : Int) - t < n := by omega
    clear hlt
    go_enter Try.func106, Try.ntmps106
    go_wp2
    refine wp_region_xall (F := fun _ _ _ => True) (by kernel_rfl) (by kernel_rfl) (by kernel_rfl) ?_
    intro wf hwf
    repeat (first
      | (refine x_skip rfl ?_; simp only [Act.put, ev_tmp, List.setIfInBounds_toArray, List.set_cons_succ, List.set_cons_zero, List.getD_cons_succ, List.getD_cons_zero])
      | (refine x_mv rfl rfl rfl ?_; simp only [Act.put, ev_tmp, List.setIfInBounds_toArray, List.set_cons_succ, List.set_cons_zero, List.getD_cons_succ, List.getD_cons_zero])
      | (refine x_as rfl rfl rfl ?_; simp only [Act.put, ev_tmp, List.setIfInBounds_toArray, List.set_cons_succ, List.set_cons_zero, List.getD_cons_succ, List.getD_cons_zero])
      | (refine x_run rfl fun K hK w1 hw1 => ?_; have k0 := hw1.cell (c0); have k1 := hw1.cell (c1); go_simp; refine hK _ ?_; clear hK K k0 k1 hw1 w1))
    refine x_nil ?_
    have rf := r1.ext hwf
    have z2 := rf.z 2
    have y2 := rf.c2
    have rs := rf.set2 true
    have ch := (Chg.of_ext ((Ext.drew w).trans hwf) (S := fun k => k = b)).trans (chg_set wf b 2 (.bool true))
    generalize hws : wf.setCell ⟨b, 2, none⟩ (.bool true) = ws at *
    go_wp2_with (first
      | ((with_reducible show wpList _ _ _ (Oper.mk _ (Op.makeSlice _ _ _) _ _ _ _ :: _) _ _); refine wl_make w.heap.size n rfl rfl rfl rfl (by unfold maxLen; omega) (by omega) (by have := ch.size; exact this) ?_; intro g w1 own1 e1; rw [made_zero] at own1)
      | ((with_reducible show wpList _ _ _ (Oper.mk _ (Op.convert _ _ _) _ _ _ _ :: _) _ _); refine wl_bytesStr (l := List.replicate n 0) rfl rfl rfl (own_Cs own1) (by simp) ?_))
    go_ret
    exact ⟨rfl, rs.ext e1, ch.trans (.of_ext e1)⟩
  · rw [if_neg hlt, if_neg hlt, decide_eq_false hlt, Bool.or_false]
    have hlt2 : ¬ (l.length : Int) - t < n := by omega
    clear hlt
    have x1 := ba_ext l t (t + n)
    rw [List.drop_take, show t + n - t = n by omega] at x1
    go_enter Try.func106, Try.ntmps106
    go_wp2
    refine wp_region_xall (F := fun _ _ _ => True) (by kernel_rfl) (by kernel_rfl) (by kernel_rfl) ?_
    intro wf hwf
    repeat (first
      | (refine x_skip rfl ?_; simp only [Act.put, ev_tmp, List.setIfInBounds_toArray, List.set_cons_succ, List.set_cons_zero, List.getD_cons_succ, List.getD_cons_zero])
      | (refine x_mv rfl rfl rfl ?_; simp only [Act.put, ev_tmp, List.setIfInBounds_toArray, List.set_cons_succ, List.set_cons_zero, List.getD_cons_succ, List.getD_cons_zero])
      | (refine x_as rfl rfl rfl ?_; simp only [Act.put, ev_tmp, List.setIfInBounds_toArray, List.set_cons_succ, List.set_cons_zero, List.getD_cons_succ, List.getD_cons_zero])
      | (refine x_run rfl fun K hK w1 hw1 => ?_; have k0 := hw1.cell (c0); have k1 := hw1.cell (c1); go_simp; refine hK _ ?_; clear hK K k0 k1 hw1 w1))
    refine x_nil ?_
    have rf := r1.ext hwf
    have z1 := rf.z 1
    have y1 := rf.c1
    have rs : RdAt (wf.setCell ⟨b, 1, none⟩ (.int .i64 ((t : Int) + n))) b l (t + n) f := by
      have := rf.set1 (t + n); rwa [Int.natCast_add] at this
    have ch := (Chg.of_ext ((Ext.drew w).trans hwf) (S := fun k => k = b)).trans (chg_set wf b 1 (.int .i64 ((t : Int) + n)))
    go_wp2
    have rd := rs.ext (Ext.drew _)
    have d0 := rd.c0
    have d1 := rd.c1
    rw [Int.natCast_add] at d1
    have ht2 : ((t : Int) + n).toNat = t + n := by omega
    have hwt : IntKind.i64.wrap (t : Int) = t := wrap_in _ (by omega) (by omega)
    refine wp_region_xall (F := fun _ _ _ => True) (by kernel_rfl) (by kernel_rfl) (by kernel_rfl) ?_
    intro wf hwf
    repeat (first
      | (refine x_skip rfl ?_; simp only [Act.put, ev_tmp, List.setIfInBounds_toArray, List.set_cons_succ, List.set_cons_zero, List.getD_cons_succ, List.getD_cons_zero])
      | (refine x_mv rfl rfl rfl ?_; simp only [Act.put, ev_tmp, List.setIfInBounds_toArray, List.set_cons_succ, List.set_cons_zero, List.getD_cons_succ, List.getD_cons_zero])
      | (refine x_as rfl rfl rfl ?_; simp only [Act.put, ev_tmp, List.setIfInBounds_toArray, List.set_cons_succ, List.set_cons_zero, List.getD_cons_succ, List.getD_cons_zero])
      | (refine x_sslice (i := (t : Int)) (j := (t : Int) + n) rfl rfl (by kernel_rfl) rfl rfl rfl (by omega) (by omega) ?_; rw [ht2, Int.toNat_natCast, x1]; simp only [Act.put, ev_tmp, List.setIfInBounds_toArray, List.set_cons_succ, List.set_cons_zero, List.getD_cons_succ, List.getD_cons_zero])
      | (refine x_run rfl fun K hK w1 hw1 => ?_; have k0 := hw1.cell (d0); have k1 := hw1.cell (d1); go_simp; refine hK _ ?_; clear hK K k0 k1 hw1 w1))
    refine x_nil ?_
    go_wp2
    go_ret
    exact ⟨by first | rfl | (congr 2; exact x1), rd.ext hwf, (ch.trans (.of_ext (Ext.drew _))).trans (.of_ext hwf)⟩
end Go.Proofs.Ytmcafdcabbighaa.lEntriesOf
