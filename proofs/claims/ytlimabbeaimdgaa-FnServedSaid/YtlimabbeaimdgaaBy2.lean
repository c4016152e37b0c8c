/- Numbers in bytes: lists. -/
import Derived.Test.YtlimabbeaimdgaaBy
import Derived.Test.YtlimabbeaimdgaaKa
import Derived.Laws.Bits128
namespace Go.Proofs.Ytlimabbeaimdgaa
set_option linter.unusedSimpArgs false
set_option linter.unusedVariables false
open Go.RowKit

theorem chgTrans {w wr w1 : World} {v bv : Value} (h : Chg (fun k => v.ownBlock = some k) w wr) (g : Chg (fun k => bv.ownBlock = some k) wr w1) (ho : ∀ k, bv.ownBlock = some k → v.ownBlock = some k ∨ w.heap.size ≤ k) : Chg (fun k => v.ownBlock = some k) w w1 :=
  ⟨g.os.trans h.os, g.tape.trans h.tape, g.output.trans h.output, Nat.le_trans h.size g.size, fun k hk hn => (g.block k (Nat.lt_of_lt_of_le hk h.size) (fun hb => by rcases ho k hb with h' | h'; exact hn h'; omega)).trans (h.block k hk hn)⟩
theorem obTrans {w wr : World} {v bv v3 : Value} (hs : w.heap.size ≤ wr.heap.size) (ho : ∀ k, bv.ownBlock = some k → v.ownBlock = some k ∨ w.heap.size ≤ k) (h3 : ∀ k, v3.ownBlock = some k → bv.ownBlock = some k ∨ wr.heap.size ≤ k) :
    ∀ k, v3.ownBlock = some k → v.ownBlock = some k ∨ w.heap.size ≤ k := by
  intro k hk
  rcases h3 k hk with h | h
  · exact ho k h
  · right; omega

set_option maxRecDepth 100000 in
set_option maxHeartbeats 1000000 in
theorem word_any (v : Value) (n : Nat) (x : Int) (B : Nat) (vs : List Value) (w : World) (hB : B ≤ w.heap.size) (hown : w.ownsRow B 5 1 v n vs) (hn : n + 4 ≤ 1073741824) (hx : -9223372036854775808 ≤ x ∧ x ≤ 9223372036854775807) :
    Calls Try.prog 141 #[v, .int .i64 x] w (GrewBy w B v n vs (leB x 4)) := by
  go_enter Try.func141, Try.ntmps141
  go_wp2_with fail
  refine (littleBytes_any v n 4 x B vs w hB hown hn (by decide) hx).mono ?_
  rintro e w1 ⟨v1, rfl, o1, c1, b1⟩
  go_wp2
  go_ret
  exact ⟨v1, rfl, o1, c1, b1⟩

theorem i64_and255 (n : Int) : bits .and .i64 n 255 = n % 256 := by
  have h127 : (BitVec.ofInt 64 255).toNat = 2 ^ 8 - 1 := by decide
  have key : (BitVec.ofInt 64 n &&& BitVec.ofInt 64 255).toNat = (n % ((2 ^ 64 : Nat) : Int)).toNat % 2 ^ 8 := by
    rw [BitVec.toNat_and, BitVec.toNat_ofInt, h127, Nat.and_two_pow_sub_one_eq_mod]
  show IntKind.i64.wrap ((BitVec.ofInt 64 n &&& BitVec.ofInt 64 255).toNat : Nat) = n % 256
  rw [key, IntKind.wrap_i64]
  omega
theorem shB_div (x : Int) (i : Nat) : x / 2 ^ (8 * i) = shB x i := by rw [shB_pow]; simp

/-- The bytes of numbers. -/
def bytesOf (xs : List Nat) : List UInt8 := xs.flatMap fun x => leB (bitsOf x) 4
theorem bytesOf_snoc (xs : List Nat) (x : Nat) : bytesOf (xs ++ [x]) = bytesOf xs ++ leB (bitsOf x) 4 := by simp [bytesOf]
theorem bytesOf_length (xs : List Nat) : (bytesOf xs).length = 4 * xs.length := by
  induction xs with
  | nil => rfl
  | cons x xs ih => simp only [bytesOf, List.flatMap_cons, List.length_append, leB_length, List.length_cons] at ih ⊢; omega
theorem bitsOf_bd (x : Nat) : -9223372036854775808 ≤ bitsOf x ∧ bitsOf x ≤ 9223372036854775807 := by unfold bitsOf wrap64; omega

set_option maxRecDepth 100000 in
set_option maxHeartbeats 1000000 in
theorem numbers_any (v : Value) (n : Nat) (B : Nat) (vs : List Value) (p : Option Addr) (m c : Nat) (us : List Value) (xs : List Nat) (w : World) (hB : B ≤ w.heap.size) (hown : w.ownsRow B 5 1 v n vs) (hx : xs.length = m) (hn : n + 4 * m ≤ 1073741824) (hc : Cs w p us) (hf : F32s us xs) (hlt : us ≠ [] → (adr p 0).block < B) :
    Calls Try.prog 85 #[v, .slice p m c] w (GrewBy w B v n vs (bytesOf xs)) := by
  have Hx := hid hx
  have Hlo := hid (own_le hown)
  clear hx
  go_enter Try.func85, Try.ntmps85
  go_wp2
  go_loopw [0, 9] (fun bv iv wr => ∃ (i : Nat), i ≤ m ∧ iv = .int .i64 i ∧ wr.ownsRow B 5 1 bv (n + 4 * i) (vs ++ byC (bytesOf (xs.take i))) ∧ B ≤ wr.heap.size ∧ Chg (fun k => v.ownBlock = some k) w wr ∧ Hid (∀ k, bv.ownBlock = some k → v.ownBlock = some k ∨ w.heap.size ≤ k)) (fun _ iv _ => m - (intOf iv).toNat)
  case atStart => exact ⟨0, by omega, rfl, by simpa [bytesOf, byC] using hown, hB, Chg.refl _ _, fun k hk => .inl hk⟩
  case round =>
    clear hown hB
    obtain ⟨i, hi, rfl, hown, hB, hch, Hob⟩ := hrel
    by_cases hlt2 : i < m
    · have hcw := hc.keep (w' := wr) (fun hne => hch.block _ (hc.blk hne) (fun h => by have := Hlo.out _ h; have := hlt hne; omega))
      have hil : i < xs.length := by rw [Hx.out]; exact hlt2
      go_wp2_with (refine wl_ldF rfl rfl rfl rfl (fun _ => rfl) rfl rfl hcw hf Hx.out (by omega) (by omega) ?_; intro r hr)
      have Hr := hid hr
      clear hr
      refine (BitsOf_any r _).mono ?_
      rintro e w1 ⟨rfl, rfl⟩
      rw [Hr.out, Int.toNat_natCast]
      have bb := bitsOf_bd (xs.getD i 0)
      generalize hb : bitsOf (xs.getD i 0) = y at *
      have Hb := hid hb
      clear hb
      go_wp2_with fail
      refine (word_any _ (n + 4 * i) y B _ _ hB hown (by omega) bb).mono ?_
      rintro e w1 ⟨v1, rfl, o1, c1, b1⟩
      go_wp2
      go_roundw
      case rel =>
        refine ⟨i + 1, by omega, by go_num, ?_, Nat.le_trans hB c1.size, chgTrans hch c1 Hob.out, obTrans hch.size Hob.out b1⟩
        rw [List.take_add_one, List.getElem?_eq_getElem hil, Option.toList_some, bytesOf_snoc, byC_append, ← List.append_assoc]
        have : bitsOf xs[i] = y := by rw [← Hb.out]; simp [hil]
        rw [this]
        rw [leB_length, Nat.add_assoc, show 4 * i + 4 = 4 * (i + 1) by omega] at o1
        exact o1
      case measure => simp [intOf]; omega
    · obtain rfl : i = m := by omega
      go_wp2
      go_ret
      have hk := Hx.out
      rw [List.take_of_length_le (by omega)] at hown
      exact ⟨_, rfl, by rw [bytesOf_length, hk]; exact hown, hch, Hob.out⟩

end Go.Proofs.Ytlimabbeaimdgaa
