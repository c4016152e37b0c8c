/- slices.Grow and slices.Concat of layers. -/
import Derived.Test.YtangnigplachdaaCpyS
import Derived.Lib.AppendZeros
namespace Go.Proofs.Ytangnigplachdaa
set_option linter.unusedSimpArgs false
set_option linter.unusedVariables false
open Go.RowKit

section
variable {P : Program} {w : World} {ops : Array Oper} {rest : List Oper} {o : Oper} {a : Act} {Q : Exit → Act → World → Prop}
/-- 'append(nil, make([]T, n)...)'. -/
theorem wl_growNil {t tn e s b : Nat} {z : Value} [T : SlTy P t e s z b] {x1 x2 : Operand} {k kn : IntKind} {n : Nat} (hg : o.guard = none) (ho : o.op = .call { callee := .builtin .append, args := #[x1, x2], argTypes := #[t, tn] }) (htn : P.underlying tn = some (.int kn))
    (hx1 : a.eval x1 = .slice none 0 0) (hx2 : a.eval x2 = .int k (n : Int)) (h0 : 0 < n) (hm : n ≤ maxLen) (h48 : n * b ≤ 281474976710656)
    (h : ∀ c w', n ≤ c → w'.ownsRow w.heap.size e s (.slice (some ⟨w.heap.size, 0, none⟩) 0 c) 0 [] → Ext w w' → wpList P ops Q rest (a.put o.dst (.slice (some ⟨w.heap.size, 0, none⟩) n c)) w') : wpList P ops Q (o :: rest) a w := by
  obtain ⟨ti, hi, hzz⟩ := Option.map_eq_some_iff.1 T.inf
  simp only [Prod.mk.injEq] at hzz
  have hz := T.zs
  have hm' := hm
  unfold maxLen at hm'
  have hr := Lib.run_append_nil_zeros (P := P) w t tn o.type e ti z k kn T.und htn hi hzz.1 n h0 (by rw [hzz.2.1]; exact T.pos) (by omega) (by rw [hzz.2.2]; exact h48)
  have hge := grownCap_ge w n 0 e
  have hle := grownCap_le_maxLen w n 0 e hm
  refine Lib.wpList_append_run w hg x1 x2 t tn ho _ _ hx1 hx2 _ _ hr (h _ _ hge ?_ ((Ext.drew w).trans (Ext.alloc _ _)))
  refine ⟨by simp, .inr ⟨w.heap.size, _, _, rfl, Nat.le_refl _, heap_alloc_new w.drew _, Nat.zero_le _, hle, ?_, by simp⟩⟩
  rw [Array.size_append, size_zeroCells, size_zeroCells, hz, ← Nat.add_mul]
  congr 1; omega
end
theorem subp0 {b s c : Nat} : subp (some ⟨b, 0, none⟩) s 0 c = some ⟨b, 0, none⟩ := by
  unfold subp
  split <;> simp [Addr.add_lit]
theorem own_val {w : World} {B te s n : Nat} {v : Value} {xs : List Value} (h : w.ownsRow B te s v n xs) : ∃ q k, v = .slice q n k := by
  rcases h.2 with ⟨rfl, rfl⟩ | ⟨g, cap, cur, rfl, _⟩
  · exact ⟨none, 0, rfl⟩
  · exact ⟨_, _, rfl⟩
set_option maxRecDepth 100000 in
set_option maxHeartbeats 4000000 in
theorem growLay_any (n : Nat) (hn : n ≤ 16777216) (w : World) : Calls Try.prog 164 #[.slice none 0 0, .int .i64 (n : Int)] w fun e w' => ∃ q k, e = .returned (.slice q 0 k) ∧ w'.ownsRow w.heap.size 125 shLayer.sz (.slice q 0 k) 0 [] ∧ Ext w w' := by
  by_cases h0 : 0 < n
  · go_enter Try.func164, Try.ntmps164
    go_wp2_with (first | ((with_reducible show wpList _ _ _ (Oper.mk _ (Op.slice _ _ _ _ _) _ _ _ _ :: _) _ _); refine wl_sliceTo (u := 0) rfl rfl rfl rfl rfl (by omega) ?_) | ((with_reducible show wpList _ _ _ (Oper.mk _ (Op.call _) _ _ _ _ :: _) _ _); refine wl_growNil (kn := .i64) (n := n) rfl rfl (by kernel_rfl) rfl rfl h0 (by unfold maxLen; omega) (by omega) ?_; intro c w1 hc own1 e1))
    go_ret
    refine ⟨_, _, rfl, ?_, e1⟩
    rw [subp0]; exact own1
  · obtain rfl : n = 0 := by omega
    go_enter Try.func164, Try.ntmps164
    go_wp2
    go_ret
    exact ⟨none, 0, rfl, ⟨rfl, .inl ⟨rfl, rfl⟩⟩, Ext.refl _⟩
set_option maxRecDepth 100000 in
set_option maxHeartbeats 4000000 in
theorem concatLay_any (b : Nat) (p0 p1 : Option Addr) (n0 c0 n1 c1 : Nat) (css0 css1 : List (List Value)) (L0 L1 : List shLayer.T) (w : World) (h0 : Lays w p0 n0 css0 L0) (h1 : Lays w p1 n1 css1 L1) (k0 : n0 ≤ c0) (k1 : n1 ≤ c1) (hn : n0 + n1 ≤ 16777216) (hb : HB w b #[.slice p0 n0 c0, .slice p1 n1 c1] 30) :
    Calls Try.prog 130 #[.slice (some ⟨b, 0, none⟩) 2 2] w fun e w' => ∃ q k, e = .returned (.slice q (n0 + n1) k) ∧ w'.ownsRow w.heap.size 125 shLayer.sz (.slice q (n0 + n1) k) (n0 + n1) (css0.flatten ++ css1.flatten) ∧ Ext w w' := by
  have G := hid (fun W => growLay_any (n0 + n1) hn W)
  rw [Int.natCast_add] at G
  have z0 : w.cell? ⟨b, 0, none⟩ = some (.slice p0 n0 c0) := hb.cell 0 rfl
  have z1 : w.cell? ⟨b, 1, none⟩ = some (.slice p1 n1 c1) := hb.cell 1 rfl
  have x0 := h0.cs; have x1 := h1.cs
  have y0 : css0.flatten.length = n0 * shLayer.sz := by rw [flat_len' h0.size, h0.cnt]
  have y1 : css1.flatten.length = n1 * shLayer.sz := by rw [flat_len' h1.size, h1.cnt]
  have Y0 := hid y0
  have Y1 := hid y1
  have o0 := hid (fun u (hu : u ∈ css0.flatten) => by obtain ⟨c, hc, h⟩ := List.mem_flatten.1 hu; exact h0.one c hc u h)
  have o1 := hid (fun u (hu : u ∈ css1.flatten) => by obtain ⟨c, hc, h⟩ := List.mem_flatten.1 hu; exact h1.one c hc u h)
  clear h0 h1 hb y0 y1
  generalize css0.flatten = us0 at *
  generalize css1.flatten = us1 at *
  have q1 : IntKind.i64.wrap ((n0 : Int) + (n1 : Int)) = ((n0 + n1 : Nat) : Int) := by rw [← Int.natCast_add]; exact wrap_in _ (by omega) (by omega)
  go_enter Try.func130, Try.ntmps130
  go_wp2_with fail
  go_loopw [3, 11] (fun sv iv wr => ∃ (i s : Nat), ((i = 0 ∧ s = 0) ∨ (i = 1 ∧ n0 = s) ∨ (i = 2 ∧ n0 + n1 = s)) ∧ iv = .int .i64 i ∧ sv = .int .i64 (s : Nat) ∧ w = wr) (fun _ iv _ => 2 - (intOf iv).toNat)
  case atStart => exact ⟨0, 0, .inl ⟨rfl, rfl⟩, rfl, rfl, rfl⟩
  case round =>
    obtain ⟨i, s, hi, rfl, rfl, rfl⟩ := hrel
    rcases hi with ⟨rfl, rfl⟩ | ⟨rfl, rfl⟩ | ⟨rfl, rfl⟩
    · go_wp2
      go_roundw
      case rel => exact ⟨1, n0, by simp, by go_num, by go_num, by first | rfl | trivial | simp⟩
      case measure => simp [intOf]
    · go_wp2
      go_roundw
      case rel => exact ⟨2, n0 + n1, by simp, by go_num, by go_num, by first | rfl | trivial | simp⟩
      case measure => simp [intOf]
    · go_wp2_with (go_at_call 164; refine (G.out _).mono ?_; rintro e w2 ⟨q, k, rfl, own2, e2⟩)
      go_loopw [6, 27] (fun av iv wr => ∃ (i m : Nat) (us : List Value) (v : Value), ((i = 0 ∧ m = 0 ∧ us = []) ∨ (i = 1 ∧ n0 = m ∧ us0 = us) ∨ (i = 2 ∧ n0 + n1 = m ∧ us0 ++ us1 = us)) ∧ iv = .int .i64 i ∧ av = v ∧ wr.ownsRow w.heap.size 125 shLayer.sz v m us ∧ Ext w wr) (fun _ iv _ => 2 - (intOf iv).toNat)
      case atStart => exact ⟨0, 0, [], _, .inl ⟨rfl, rfl, rfl⟩, rfl, rfl, own2, e2⟩
      case round =>
        clear own2 e2
        obtain ⟨i, m, us, v, hi, rfl, rfl, own3, e3⟩ := hrel
        have z2 := e3.cell z0
        have z3 := e3.cell z1
        rcases hi with ⟨rfl, rfl, rfl⟩ | ⟨rfl, rfl, rfl⟩ | ⟨rfl, rfl, rfl⟩
        · go_wp2_with ((with_reducible show wpList _ _ _ (Oper.mk _ (Op.call _) _ _ _ _ :: _) _ _); refine wl_appz rfl rfl rfl rfl own3 (x0.ext e3) Y0.out k0 o0.out (by unfold maxLen; omega) (by omega) e3.size ?_; intro v' w1 own1 g1)
          go_roundw
          case rel => exact ⟨1, _, _, _, .inr (.inl ⟨rfl, rfl, rfl⟩), by go_num, rfl, by simpa using own1, e3.grown g1 (fun kk hk => own_le own3 kk hk)⟩
          case measure => simp [intOf]
        · go_wp2_with ((with_reducible show wpList _ _ _ (Oper.mk _ (Op.call _) _ _ _ _ :: _) _ _); refine wl_appz rfl rfl rfl rfl own3 (x1.ext e3) Y1.out k1 o1.out (by unfold maxLen; omega) (by omega) e3.size ?_; intro v' w1 own1 g1)
          go_roundw
          case rel => exact ⟨2, _, _, _, .inr (.inr ⟨rfl, rfl, rfl⟩), by go_num, rfl, own1, e3.grown g1 (fun kk hk => own_le own3 kk hk)⟩
          case measure => simp [intOf]
        · go_wp2
          go_ret
          obtain ⟨q, k, rfl⟩ := own_val own3
          exact ⟨q, k, rfl, own3, e3⟩
end Go.Proofs.Ytangnigplachdaa
