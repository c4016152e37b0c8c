/- FnStopped: the small functions that the law calls. -/
import Derived.Test.YtlimabbeaimdgaaBest
import Derived.Test.YtlimabbeaimdgaaDr4
import Derived.Test.YtlimabbeaimdgaaKd
import Derived.Test.YtlimabbeaimdgaaKf
namespace Go.Proofs.Ytlimabbeaimdgaa
set_option linter.unusedSimpArgs false
set_option linter.unusedVariables false
open Go.RowKit

section
variable {P : Program} {w : World} {ops : Array Oper} {rest : List Oper} {o o1 o2 : Oper} {a : Act} {Q : Exit → Act → World → Prop}
/-- 'xs[i]' of one-cell elements, read under a condition that holds. -/
theorem wl_idxloadW {t e b : Nat} {z : Value} [SlTy P t e 1 z b] [Cell1 P e] {x ix : Operand} {d : Tmp} (hw1 : Region.wanted o1 (yielded ops a.tmps) = true) (ho1 : o1.op = .indexAddr t x ix) (hw2 : ∀ y, Region.wanted o2 (yielded ops (a.put o1.dst y).tmps) = true) (ho2 : o2.op = .load e (.tmp d))
    {p : Option Addr} {n c : Nat} {k : IntKind} {i : Int} (hd : ∀ y, (a.put o1.dst y).eval (.tmp d) = y)
    (hx : a.eval x = .slice p n c) (hi : a.eval ix = .int k i) {vs : List Value} (hc : Cs w p vs) (hvn : vs.length = n) (h0 : 0 ≤ i) (hn : i < n) {u : Value} (hu : vs[i.toNat]? = some u)
    (h : wpList P ops Q rest ((a.put o1.dst (.pointer (some (adr p i.toNat)))).put o2.dst u) w) : wpList P ops Q (o1 :: o2 :: rest) a w := by
  have hlt : i.toNat < vs.length := by omega
  have hp : p.isSome = true := hc.isS (by intro h; simp [h] at hlt)
  refine wl_valueW hw1 (w' := w) (v := .pointer (some (adr p i.toNat))) (by simp [execOp, ho1, hx, hi, run_indexAt hp h0 hn]) ?_
  exact wl_valueW (hw2 _) (by simp [execOp, ho2, hd, run_load1 (hc.cell _ _ hu)]) h
end

set_option maxRecDepth 100000 in
set_option maxHeartbeats 1000000 in
theorem b10Long_any (p q : Option Addr) (n c m d : Nat) (w : World) : Calls Try.prog 21 #[.slice p n c, .slice q m d] w fun e w' => e = .returned (.bool (decide (1048576 < n) || decide (1048576 < m))) ∧ w = w' := by
  by_cases h : 1048576 < n
  · have h1 : decide (1048576 < n) = true := decide_eq_true h
    go_enter Try.func21, Try.ntmps21
    go_wp2
    go_ret
    exact ⟨by simp [h], rfl⟩
  · by_cases h2 : 1048576 < m
    · go_enter Try.func21, Try.ntmps21
      go_wp2
      go_ret
      exact ⟨by first | (simp [h, h2]; done) | (simp [h, h2]; omega), rfl⟩
    · go_enter Try.func21, Try.ntmps21
      go_wp2
      go_ret
      exact ⟨by first | (simp [h, h2]; done) | (simp [h, h2]; omega), rfl⟩
set_option maxRecDepth 100000 in
set_option maxHeartbeats 1000000 in
theorem b10At_any (p : Option Addr) (n c : Nat) (bs : List Nat) (i N : Nat) (w : World) (hc : Cs w p (u8s bs)) (hl : bs.length = n) (hn : n ≤ 1048576) (hb : ∀ b ∈ bs, b < 256) (hi : i ≤ 100000) (hN : N ≤ 100000) :
    Calls Try.prog 22 #[.slice p n c, .int .i64 i, .int .i64 N] w fun e w' => ∃ x : Nat, e = .returned (.int .i64 x) ∧ (1 ≤ N → x < N) ∧ w = w' := by
  have hlen : (u8s bs).length = n := by simp [u8s, hl]
  by_cases h1 : N ≤ 1
  · go_enter Try.func22, Try.ntmps22
    go_wp2
    go_ret
    exact ⟨0, rfl, fun h => by omega, rfl⟩
  · have d3 : ((N : Int) = 0) = False := by simp; omega
    have d4 : ((N : Int) = -1) = False := by first | (simp; done) | (simp; omega)
    by_cases h2 : i < n
    · have hib : i < bs.length := by omega
      have hv : (u8s bs)[i]? = some (.int .u8 ((bs[i] : Nat) : Int)) := by simp [u8s, hib]
      have hb2 := hb bs[i] (by simp)
      generalize bs[i] = b at *
      have wb : IntKind.i64.wrap (b : Int) = (b : Int) := wrap_in _ (by omega) (by omega)
      have Hv := hid hv
      have Hl := hid hlen
      clear hv hlen hl hib hb
      go_enter Try.func22, Try.ntmps22
      go_wp2_with ((with_reducible show wpList _ _ _ (Oper.mk _ (Op.indexAddr _ _ _) _ _ _ _ :: Oper.mk _ (Op.load _ _) _ _ _ _ :: _) _ _); refine wl_idxload rfl rfl rfl rfl (fun _ => rfl) rfl rfl hc Hl.out (by omega) (by omega) ?_; intro u hu; rw [Int.toNat_natCast, Hv.out] at hu; cases hu)
      go_ret
      have g1 := Int.emod_nonneg (b : Int) (show (N : Int) ≠ 0 by omega)
      have g2 := Int.emod_lt_of_pos (b : Int) (show (0 : Int) < N by omega)
      exact ⟨((b : Int) % N).toNat, by rw [Int.toNat_of_nonneg g1]; rfl, fun h => by omega, rfl⟩
    · have w1 : IntKind.i64.wrap ((i : Int) * 37) = (i : Int) * 37 := wrap_in _ (by omega) (by omega)
      have w2 : IntKind.i64.wrap ((i : Int) * 37 + 11) = (i : Int) * 37 + 11 := wrap_in _ (by omega) (by omega)
      go_enter Try.func22, Try.ntmps22
      go_wp2
      go_ret
      have g1 := Int.emod_nonneg ((i : Int) * 37 + 11) (show (N : Int) ≠ 0 by omega)
      have g2 := Int.emod_lt_of_pos ((i : Int) * 37 + 11) (show (0 : Int) < N by omega)
      exact ⟨(((i : Int) * 37 + 11) % N).toNat, by rw [Int.toNat_of_nonneg g1]; rfl, fun h => by omega, rfl⟩
theorem eqB_cn {r x : Nat} (h : cn .f32 r = x) : (FloatKind.f32.format.order r r == some .eq) = isN x := by
  subst h
  show feq .f32 r r = feq .f32 (cn .f32 r) (cn .f32 r)
  rw [feq_cn]
theorem ltB_cn {r s x y : Nat} (h : cn .f32 r = x) (k : cn .f32 s = y) : (FloatKind.f32.format.order r s == some .lt) = flt .f32 x y := by
  subst h; subst k
  show flt .f32 r s = flt .f32 (cn .f32 r) (cn .f32 s)
  rw [flt_cn]
theorem eqB2_cn {r s x y : Nat} (h : cn .f32 r = x) (k : cn .f32 s = y) : (FloatKind.f32.format.order r s == some .eq) = feq .f32 x y := by
  subst h; subst k
  show feq .f32 r s = feq .f32 (cn .f32 r) (cn .f32 s)
  rw [feq_cn]
def bestR (xs : List Nat) (n : Nat) : Int × Bool := if bestTo xs n < 0 then (0, false) else (bestTo xs n, true)
set_option maxRecDepth 100000 in
set_option maxHeartbeats 4000000 in
theorem BestStep_any (p : Option Addr) (n c : Nat) (vs : List Value) (xs : List Nat) (w : World) (hx : xs.length = n) (hn : n ≤ 256) (hc : Cs w p vs) (hv : F32s vs xs) :
    Calls Try.prog 25 #[.slice p n c] w fun e w' => e = .returned (.tuple #[.int .i64 (bestR xs n).1, .bool (bestR xs n).2]) ∧ Ext w w' := by
  have X := hid hx
  have HL := hid (hv.1.trans hx)
  have HR : bestR xs n = if bestTo xs n < 0 then (0, false) else (bestTo xs n, true) := rfl
  have HR := hid HR
  generalize bestR xs n = R at *
  clear hx
  go_enter Try.func25, Try.ntmps25
  go_wp2
  go_loopw [4, 12] (fun bv iv wr => ∃ i : Nat, i ≤ n ∧ iv = .int .i64 i ∧ bv = .int .i64 (bestTo xs i) ∧ Ext w wr) (fun _ iv _ => n - (intOf iv).toNat)
  case atStart => exact ⟨0, by omega, rfl, rfl, Ext.refl _⟩
  case round =>
    obtain ⟨i, hi, rfl, rfl, he⟩ := hrel
    have INV := bestTo_inv xs i
    have HS : bestTo xs (i + 1) = if isN (xs.getD i 0) && (decide (bestTo xs i < 0) || flt .f32 (xs.getD i 0) (xs.getD (bestTo xs i).toNat 0)) then (i : Int) else bestTo xs i := rfl
    by_cases hlt : i < n
    · have k1 := (hc.ext he).ext (Ext.drew wr)
      have k0 := hc.ext he
      obtain ⟨r1, hr1, g1⟩ := hv.get (i := i) (by rw [X.out]; exact hlt)
      have hq := eqB_cn g1
      have R1 := hid hr1
      clear hr1
      rcases INV with ⟨hb, _⟩ | ⟨k, hb, hk, _⟩
      · rw [hb] at HS ⊢
        rw [show decide ((-1 : Int) < 0) = true from rfl, Bool.true_or, Bool.and_true] at HS
        cases hN : isN (xs.getD i 0)
        all_goals
          rw [hN] at hq HS
          have HS2 := hid HS
          clear HS hb g1 hN
          go_wp2_with ((with_reducible show wpList _ _ _ (Oper.mk _ (Op.indexAddr _ _ _) _ _ _ _ :: Oper.mk _ (Op.load _ _) _ _ _ _ :: _) _ _); refine wl_idxloadW rfl rfl (fun _ => rfl) rfl (fun _ => rfl) rfl rfl k0 HL.out (by omega) (by omega) R1.out ?_)
          go_roundw
          case rel => exact ⟨i + 1, by omega, by go_num, by rw [HS2.out]; rfl, he⟩
          case measure => simp [intOf]; omega
      · rw [hb] at HS ⊢
        rw [show decide ((k : Int) < 0) = false by simp, Bool.false_or, Int.toNat_natCast] at HS
        have hk0 : decide ((k : Int) < 0) = false := by simp
        obtain ⟨r2, hr2, g2⟩ := hv.get (i := k) (by rw [X.out]; omega)
        have hh := ltB_cn g1 g2
        have R2 := hid hr2
        clear hr2
        cases hN : isN (xs.getD i 0)
        · rw [hN] at hq HS
          have HS2 := hid HS
          clear HS hb g1 g2 hN hh
          go_wp2_with ((with_reducible show wpList _ _ _ (Oper.mk _ (Op.indexAddr _ _ _) _ _ _ _ :: Oper.mk _ (Op.load _ _) _ _ _ _ :: _) _ _); refine wl_idxloadW rfl rfl (fun _ => rfl) rfl (fun _ => rfl) rfl rfl k0 HL.out (by omega) (by omega) R1.out ?_)
          go_roundw
          case rel => exact ⟨i + 1, by omega, by go_num, by rw [HS2.out]; rfl, he⟩
          case measure => simp [intOf]; omega
        · rw [hN, Bool.true_and] at HS
          rw [hN] at hq
          cases hf : flt .f32 (xs.getD i 0) (xs.getD k 0)
          all_goals
            rw [hf] at hh HS
            have HS2 := hid HS
            clear HS hb g1 g2 hN hf
            go_wp2_with (first | ((with_reducible show wpList _ _ _ (Oper.mk _ (Op.indexAddr _ _ _) _ _ _ _ :: Oper.mk _ (Op.load _ _) _ _ _ _ :: _) _ _); refine wl_idxloadW rfl rfl (fun _ => rfl) rfl (fun _ => rfl) rfl rfl k0 HL.out (by omega) (by omega) R1.out ?_) | ((with_reducible show wpList _ _ _ (Oper.mk _ (Op.indexAddr _ _ _) _ _ _ _ :: Oper.mk _ (Op.load _ _) _ _ _ _ :: _) _ _); refine wl_idxloadW rfl rfl (fun _ => rfl) rfl (fun _ => rfl) rfl rfl k0 HL.out (by omega) (by omega) R2.out ?_))
            go_roundw
            case rel => exact ⟨i + 1, by omega, by go_num, by rw [HS2.out]; rfl, he⟩
            case measure => simp [intOf]; omega
    · obtain rfl : i = n := by omega
      have HR2 := HR.out
      rcases INV with ⟨hb, _⟩ | ⟨k, hb, hk, _⟩
      · rw [hb, if_pos (by decide)] at HR2
        subst HR2
        rw [hb]
        go_wp2
        go_ret2
        exact ⟨rfl, he⟩
      · have hk0 : decide ((k : Int) < 0) = false := by simp
        have hk1 : ¬ ((k : Int) < 0) := by omega
        rw [hb, if_neg hk1] at HR2
        subst HR2
        rw [hb]
        go_wp2
        go_ret2
        exact ⟨rfl, he⟩
end Go.Proofs.Ytlimabbeaimdgaa
