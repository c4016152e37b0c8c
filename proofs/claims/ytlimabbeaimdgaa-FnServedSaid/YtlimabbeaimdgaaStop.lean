/- StopAt of the program and of the reference. -/
import Derived.Test.YtlimabbeaimdgaaKb
import Derived.Test.YtlimabbeaimdgaaKa
namespace Go.Proofs.Ytlimabbeaimdgaa
set_option linter.unusedSimpArgs false
set_option linter.unusedVariables false
open Go.RowKit

/-- Less, of two numbers. -/
def lt32 (x y : Nat) : Bool := FloatKind.f32.format.order x y == some .lt
theorem lt32_cn {a b x y : Nat} (ha : cn .f32 a = x) (hb : cn .f32 b = y) : (FloatKind.f32.format.order a b == some .lt) = lt32 x y := by
  subst ha; subst hb
  unfold lt32
  rw [order_cn]
/-- The number x is less than each of the first f ones. -/
def allLess (xs : List Nat) (f : Nat) (x : Nat) : Bool := !anyTo (fun j => !(lt32 x (xs.getD j 0))) f
/-- Some one of the last p ones at i is less than all that come before them. -/
def fresh (xs : List Nat) (p i : Nat) : Bool := anyTo (fun m => allLess xs (i + 1 - p) (xs.getD (i + 1 - p + m) 0)) p
def stopGo (xs : List Nat) (p : Nat) : Nat → Nat → Int × Bool
  | 0, _ => (0, false)
  | f + 1, i => if fresh xs p i = true then stopGo xs p f (i + 1) else ((i : Int), true)
def stopR (xs : List Nat) (p : Int) : Int × Bool := if xs.length ≤ 256 ∧ inB p 1 256 = true then stopGo xs p.toNat (xs.length - p.toNat) p.toNat else (0, false)
theorem stopR_no {xs : List Nat} {p : Int} (h : ¬ (xs.length ≤ 256 ∧ inB p 1 256 = true)) : stopR xs p = (0, false) := by unfold stopR; rw [if_neg h]

theorem cell_made (w : World) (v : Value) (t : TypeId) : (w.alloc (.cells #[v] t)).cell? ⟨w.heap.size, 0, none⟩ = some v := by
  unfold World.cell?; rw [heap_alloc_new]; rfl

set_option maxRecDepth 100000 in
set_option maxHeartbeats 1000000 in
theorem stop2_any (bx b : Nat) (a : Addr) (w : World) (h : w.cell? a = some (.float .f32 bx)) :
    Calls Try.prog 84 #[.float .f32 b, .pointer (some a)] w fun e w' => e = .returned (.bool (!(FloatKind.f32.format.order bx b == some .lt))) ∧ w = w' := by
  go_enter Try.func84, Try.ntmps84
  go_wp2_with (refine wl_load1 rfl rfl rfl h ?_)
  go_ret
  exact ⟨rfl, rfl⟩

set_option maxRecDepth 100000 in
set_option maxHeartbeats 1000000 in
theorem stop1_any (bx : Nat) (ab af : Addr) (p : Option Addr) (n c f : Nat) (vs : List Value) (xs : List Nat) (w : World) (hab : w.cell? ab = some (.slice p n c)) (haf : w.cell? af = some (.int .i64 f)) (hx : xs.length = n) (hn : n ≤ 256) (hnc : n ≤ c) (hf : f ≤ n) (hc : Cs w p vs) (hv : F32s vs xs) :
    Calls Try.prog 83 #[.float .f32 bx, .pointer (some ab), .pointer (some af)] w fun e w' => e = .returned (.bool (allLess xs f (cn .f32 bx))) ∧ Ext w w' := by
  have hcall := containsFuncF32_any 84 #[.pointer (some ⟨w.heap.size, 0, none⟩)] (by intro args w; kernel_rfl) (subp p 1 0 c) (f - 0) (c - 0) ((vs.take (f * 1)).drop (0 * 1)) (fun j => !(lt32 (cn .f32 bx) (xs.getD j 0))) (w.alloc (.cells #[.float .f32 bx] 49))
    (by rw [List.length_drop, List.length_take, hv.1]; omega) (by unfold maxLen; omega) ((hc.ext (Ext.alloc w _)).sub (by omega) (by omega)) (fun i u W hi hW => by
      have hi' : i < f := by have := (List.getElem?_eq_some_iff.1 hi).1; simp at this; omega
      obtain ⟨b, hb, hcb⟩ := hv.get (i := i) (by omega)
      rw [Nat.zero_mul, List.drop_zero, List.getElem?_take, if_pos (by omega), hb] at hi
      cases hi
      have hcell : W.cell? ⟨w.heap.size, 0, none⟩ = some (.float .f32 bx) := hW.cell (cell_made w _ _)
      refine (stop2_any bx b _ W hcell).mono ?_
      rintro e w' ⟨rfl, rfl⟩
      exact ⟨by rw [lt32_cn rfl hcb], Ext.refl _⟩)
  have hal : allLess xs f (cn .f32 bx) = !anyTo (fun j => !(lt32 (cn .f32 bx) (xs.getD j 0))) (f - 0) := rfl
  rw [hal]
  generalize anyTo (fun j => !(lt32 (cn .f32 bx) (xs.getD j 0))) (f - 0) = r at *
  have hab' := (Ext.alloc w (.cells #[.float .f32 bx] 49)).cell hab
  have haf' := (Ext.alloc w (.cells #[.float .f32 bx] 49)).cell haf
  clear hv hc hab haf
  go_enter Try.func83, Try.ntmps83
  go_wp2_with (first | (refine wl_load1 rfl rfl rfl hab' ?_) | (refine wl_load1 rfl rfl rfl haf' ?_) | (refine wl_sliceTo rfl rfl rfl rfl rfl (u := f) (by omega) ?_))
  refine hcall.mono ?_
  rintro e w1 ⟨rfl, e1⟩
  go_wp2
  go_ret
  exact ⟨rfl, (Ext.alloc w _).trans e1⟩
end Go.Proofs.Ytlimabbeaimdgaa
