/- Bytes: cells of bytes, a text of bytes, numbers in bytes, the least first. -/
import Derived.Test.YtlimabbeaimdgaaKb
import Derived.Laws.BytesArg
import Derived.Laws.IdiomStrings
namespace Go.Proofs.Ytlimabbeaimdgaa
set_option linter.unusedSimpArgs false
set_option linter.unusedVariables false
open Go.RowKit

def byC (l : List UInt8) : List Value := l.map fun b => Value.int .u8 (b.toNat : Int)
theorem byC_append (l m : List UInt8) : byC (l ++ m) = byC l ++ byC m := List.map_append ..
theorem byC_length (l : List UInt8) : (byC l).length = l.length := List.length_map ..
theorem byC_one (l : List UInt8) : ∀ u ∈ byC l, u.oneCell' = true := by
  intro u hu; obtain ⟨b, _, rfl⟩ := List.mem_map.1 hu; rfl
theorem strCells_eq (s : ByteArray) : Lib.strCells s = byC s.data.toList := rfl
theorem byC_get (l : List UInt8) (j : Nat) (hj : j < l.length) : (byC l)[j]? = some (.int .u8 (l[j].toNat : Int)) := by
  simp [byC, hj]

section
variable {w : World} {ops : Array Oper} {rest : List Oper} {o : Oper} {a : Act} {Q : Exit → Act → World → Prop}
theorem run_bytesStr {p : Option Addr} {n c : Nat} {l : List UInt8} (hc : Cs w p (byC l)) (hl : l.length = n) : (convert 40 9 (.slice p n c)).run Try.prog w = .ok (.string ⟨l.toArray⟩) w := by
  subst hl
  cases p with
  | some a =>
    refine run_convert_bytes_back w _ _ 5 a c l (by kernel_rfl) (by kernel_rfl) (by kernel_rfl) (fun j hj => ?_)
    have := hc.cell j _ (byC_get l j hj)
    rwa [adr_some] at this
  | none =>
    have : byC l = [] := Classical.byContradiction fun hn => by have := hc.isS hn; simp at this
    have h0 : l = [] := by cases l with | nil => rfl | cons b l => simp [byC] at this
    subst h0
    exact run_convert_bytes_nil w 40 5 (by kernel_rfl) (by kernel_rfl) _ c _ (by kernel_rfl)
/-- 'string(b)'. -/
theorem wl_bytesStr {x : Operand} {p : Option Addr} {n c : Nat} {l : List UInt8} (hg : o.guard = none) (ho : o.op = .convert 40 9 x) (hx : a.eval x = .slice p n c) (hc : Cs w p (byC l)) (hl : l.length = n)
    (h : wpList Try.prog ops Q rest (a.put o.dst (.string ⟨l.toArray⟩)) w) : wpList Try.prog ops Q (o :: rest) a w :=
  wl_value hg (by simp [execOp, ho, hx, run_bytesStr hc hl]) h
/-- 'append(b, s...)'. -/
theorem wl_appStr {x1 x2 : Operand} {v : Value} {B n : Nat} {vs : List Value} {s : ByteArray} (hg : o.guard = none) (ho : o.op = .call { callee := .builtin .append, args := #[x1, x2], argTypes := #[40, 9] })
    (hx1 : a.eval x1 = v) (hx2 : a.eval x2 = .string s) (how : w.ownsRow B 5 1 v n vs) (hn : n + s.size ≤ 1073741824) (hB : B ≤ w.heap.size)
    (h : ∀ v' w', w'.ownsRow B 5 1 v' (n + s.size) (vs ++ byC s.data.toList) → w.grownBy w' v.ownBlock → wpList Try.prog ops Q rest (a.put o.dst v') w') : wpList Try.prog ops Q (o :: rest) a w := by
  obtain ⟨ti, hi, hzz⟩ := Option.map_eq_some_iff.1 tyU8.inf
  simp only [Prod.mk.injEq] at hzz
  exact Lib.wpList_append_own_string w hg x1 x2 _ _ ho B 5 ti tyU8.und (by kernel_rfl) hi hzz.1 hzz.2.1 hzz.2.2 v n vs hx1 how s hx2 (by unfold maxLen; omega) (by omega) hB (fun v' w' h1 h2 _ => h v' w' h1 h2)
end

/-- What is left of a number behind i bytes; its byte; its bytes. -/
def shB (x : Int) : Nat → Int
  | 0 => x
  | i + 1 => shB x i / 256
def byteOf (x : Int) : UInt8 := UInt8.ofNat (x % 256).toNat
def leB (x : Int) (m : Nat) : List UInt8 := (List.range m).map fun i => byteOf (shB x i)
theorem leB_succ (x : Int) (m : Nat) : leB x (m + 1) = leB x m ++ [byteOf (shB x m)] := by simp [leB, List.range_succ]
theorem leB_zero (x : Int) : leB x 0 = [] := rfl
theorem leB_length (x : Int) (m : Nat) : (leB x m).length = m := by simp [leB]
theorem shB_bd (x : Int) (h : -9223372036854775808 ≤ x ∧ x ≤ 9223372036854775807) : ∀ i, -9223372036854775808 ≤ shB x i ∧ shB x i ≤ 9223372036854775807
  | 0 => h
  | i + 1 => by have := shB_bd x h i; simp only [shB]; omega
theorem byteOf_toNat (x : Int) : ((byteOf x).toNat : Int) = x % 256 := by
  have h0 : 0 ≤ x % 256 := Int.emod_nonneg _ (by decide)
  have h1 : x % 256 < 256 := Int.emod_lt_of_pos _ (by decide)
  unfold byteOf
  rw [UInt8.toNat_ofNat']
  have : (x % 256).toNat % 2 ^ 8 = (x % 256).toNat := Nat.mod_eq_of_lt (by omega)
  rw [this]; omega
theorem shB_pow (x : Int) : ∀ i, shB x i = x / ((2 ^ (8 * i) : Nat) : Int)
  | 0 => by simp [shB]
  | i + 1 => by
    rw [shB, shB_pow x i, Int.ediv_ediv_of_nonneg (Int.natCast_nonneg _)]
    congr 1
    rw [show 8 * (i + 1) = 8 * i + 8 by omega, Nat.pow_add]; simp

/-- A row of bytes of the call's own has grown by some bytes. -/
def GrewBy (w : World) (B : Nat) (v : Value) (n : Nat) (vs : List Value) (l : List UInt8) (e : Ending) (w' : World) : Prop :=
  ∃ v', e = .returned v' ∧ w'.ownsRow B 5 1 v' (n + l.length) (vs ++ byC l) ∧ Chg (fun k => v.ownBlock = some k) w w' ∧ ∀ k, v'.ownBlock = some k → v.ownBlock = some k ∨ w.heap.size ≤ k
theorem growChg {w wr w1 : World} {v bv : Value} (h : Chg (fun k => v.ownBlock = some k) w wr) (g : wr.grownBy w1 bv.ownBlock) (ho : ∀ k, bv.ownBlock = some k → v.ownBlock = some k ∨ w.heap.size ≤ k) : Chg (fun k => v.ownBlock = some k) w w1 :=
  ⟨g.os.trans h.os, g.tape.trans h.tape, g.output.trans h.output, Nat.le_trans h.size g.size, fun k hk hn => (g.block k (Nat.lt_of_lt_of_le hk h.size) (fun hb => by rcases ho k hb.symm with h' | h'; exact hn h'; omega)).trans (h.block k hk hn)⟩
theorem growOb {w wr : World} {v bv : Value} {g c n : Nat} (hs : w.heap.size ≤ wr.heap.size) (ho : ∀ k, bv.ownBlock = some k → v.ownBlock = some k ∨ w.heap.size ≤ k) (hg : bv.ownBlock = some g ∨ g = wr.heap.size + 1) :
    ∀ k, (Value.slice (some ⟨g, 0, none⟩) n c).ownBlock = some k → v.ownBlock = some k ∨ w.heap.size ≤ k := by
  intro k hk
  simp [Value.ownBlock] at hk; subst hk
  rcases hg with h | h
  · exact ho _ h
  · right; omega

set_option maxRecDepth 100000 in
set_option maxHeartbeats 1000000 in
theorem littleBytes_any (v : Value) (n m : Nat) (x : Int) (B : Nat) (vs : List Value) (w : World) (hB : B ≤ w.heap.size) (hown : w.ownsRow B 5 1 v n vs) (hn : n + m ≤ 1073741824) (hm : m ≤ 8) (hx : -9223372036854775808 ≤ x ∧ x ≤ 9223372036854775807) :
    Calls Try.prog 182 #[v, .int .i64 x, .int .i64 m] w (GrewBy w B v n vs (leB x m)) := by
  have Hv := hid (own_lt hown)
  go_enter Try.func182, Try.ntmps182
  go_wp2
  go_loopw [0, 1, 8] (fun bv xv iv wr => ∃ (i : Nat), i ≤ m ∧ iv = .int .i64 i ∧ xv = .int .i64 (shB x i) ∧ wr.ownsRow B 5 1 bv (n + i) (vs ++ byC (leB x i)) ∧ B ≤ wr.heap.size ∧ Chg (fun k => v.ownBlock = some k) w wr ∧ Hid (∀ k, bv.ownBlock = some k → v.ownBlock = some k ∨ w.heap.size ≤ k)) (fun _ _ iv _ => m - (intOf iv).toNat)
  case atStart => exact ⟨0, by omega, rfl, rfl, by simpa [leB_zero, byC] using hown, hB, Chg.refl _ _, fun k hk => .inl hk⟩
  case round =>
    clear hown hB
    obtain ⟨i, hi, rfl, rfl, hown, hB, hch, Hob⟩ := hrel
    obtain ⟨s1, s2⟩ := shB_bd x hx i
    by_cases hlt : i < m
    · go_wp2_with (refine wl_app1b (u := .int .u8 (shB x i % 256)) rfl rfl rfl rfl rfl rfl rfl (fun _ => rfl) (fun _ => rfl) hown (by unfold maxLen; omega) (by omega) (by omega) ?_; intro g c w1 own1 g1 hg1)
      have Hg := hid hg1
      clear hg1
      go_roundw
      case rel =>
        refine ⟨i + 1, by omega, by go_num, rfl, ?_, Nat.le_trans hB g1.size, growChg hch g1 Hob.out, growOb hch.size Hob.out Hg.out⟩
        rw [leB_succ, byC_append, ← List.append_assoc]
        simpa [byC, byteOf_toNat, Value.cells, ← Nat.add_assoc] using own1
      case measure => simp [intOf]; omega
    · obtain rfl : i = m := by omega
      go_wp2
      go_ret
      exact ⟨_, rfl, by rw [leB_length]; exact hown, hch, Hob.out⟩
end Go.Proofs.Ytlimabbeaimdgaa
