/- Numbers that are read from bytes. -/
import Derived.Test.YtlimabbeaimdgaaSrc2
import Derived.Test.YtlimabbeaimdgaaKa
namespace Go.Proofs.Ytlimabbeaimdgaa
set_option linter.unusedSimpArgs false
set_option linter.unusedVariables false
open Go.RowKit

theorem leN_word {l : List UInt8} (h : l.length ≤ 7) : 0 ≤ leN l ∧ leN l < 72057594037927936 := by
  have := leN_bd l 7 h
  have e : (256 : Int) ^ 7 = 72057594037927936 := by decide
  rw [e] at this; exact this
set_option maxRecDepth 100000 in
set_option maxHeartbeats 1000000 in
theorem number_any (b : Nat) (l : List UInt8) (f : Bool) (m : Nat) (w : World) (h : SrcAt w b l f) (hl : l.length ≤ 1073741824) (hm : m ≤ 7) :
    Calls Try.prog 143 #[.pointer (some ⟨b, 0, none⟩), .int .i64 m] w fun e w' =>
      e = .returned (.int .i64 (leN (if l.length < m then [] else l.take m))) ∧ SrcAt w' b (if l.length < m then l else l.drop m) (f || decide (l.length < m)) ∧ Chg (fun k => k = b) w w' := by
  have C := take_any b l f m w h hl
  have hx : (if l.length < m then [] else l.take m).length ≤ 7 := by split <;> simp <;> omega
  generalize (if l.length < m then ([] : List UInt8) else l.take m) = x at *
  generalize (if l.length < m then l else l.drop m) = y at *
  generalize (f || decide (l.length < m)) = g at *
  have hz := ba_size x
  clear h hl
  generalize hn : x.length = n at *
  go_enter Try.func143, Try.ntmps143
  go_wp2_with fail
  refine C.mono ?_
  rintro e w1 ⟨rfl, s1, c1⟩
  clear C
  go_wp2
  go_loopw [5, 7] (fun nv iv wr => ∃ (k : Nat), k ≤ n ∧ iv = .int .i64 ((k : Int) - 1) ∧ nv = .int .i64 (leN (x.drop k)) ∧ wr = w1) (fun _ iv _ => (intOf iv + 1).toNat)
  case atStart => exact ⟨n, by omega, by go_num, by rw [List.drop_of_length_le (by omega)]; rfl, rfl⟩
  case round =>
    obtain ⟨k, hk, rfl, rfl, rfl⟩ := hrel
    cases k with
    | zero =>
      go_wp2
      go_ret
      exact ⟨rfl, s1, c1⟩
    | succ k =>
      have hkl : k < x.length := by omega
      have hat := leN_at hkl
      have hbd := leN_bd (x.drop (k + 1)) 6 (by rw [List.length_drop]; omega)
      have hb := x[k].toNat_lt
      have h256 : (256 : Int) ^ 6 = 281474976710656 := by decide
      rw [h256] at hbd
      generalize leN (x.drop (k + 1)) = N at *
      have hor := i64_or8 (n := N) (b := (x[k].toNat : Int)) (by omega) (by omega) (by omega) (by omega)
      have hks : k < (⟨x.toArray⟩ : ByteArray).size := by rw [hz]; omega
      have hg : wrap64 (((⟨x.toArray⟩ : ByteArray)[k]'hks).toNat : Int) = (x[k].toNat : Int) := by
        have : (⟨x.toArray⟩ : ByteArray)[k]'hks = x[k] := rfl
        rw [this]; unfold wrap64; omega
      go_wp2
      go_roundw
      case rel => exact ⟨k, by omega, by go_num, by rw [hat]; congr 1; omega, trivial⟩
      case measure => first | (simp [intOf]; done) | (simp [intOf]; omega)

/-- The bits of the number i of bytes; the numbers. -/
def rawN (l : List UInt8) (i : Nat) : Nat := (leN ((l.drop (4 * i)).take 4)).toNat
def numsF (l : List UInt8) (n : Nat) : List Nat := (List.range n).map fun i => cn .f32 (rawN l i)
theorem numsF_succ (l : List UInt8) (n : Nat) : numsF l (n + 1) = numsF l n ++ [cn .f32 (rawN l n)] := by simp [numsF, List.range_succ]
theorem numsF_len (l : List UInt8) (n : Nat) : (numsF l n).length = n := by simp [numsF]
theorem rawN_bd (l : List UInt8) (i : Nat) : rawN l i < 4294967296 ∧ (rawN l i : Int) = leN ((l.drop (4 * i)).take 4) := by
  have := leN_bd ((l.drop (4 * i)).take 4) 4 (by simp; omega)
  have e : (256 : Int) ^ 4 = 4294967296 := by decide
  rw [e] at this
  unfold rawN; omega
theorem F32s.snoc1 {vs : List Value} {xs : List Nat} (h : F32s vs xs) (b : Nat) : F32s (vs ++ [.float .f32 b]) (xs ++ [cn .f32 b]) := by
  refine ⟨by simp [h.1], fun i hi => ?_⟩
  rw [List.length_append] at hi
  by_cases hl : i < xs.length
  · obtain ⟨c, h1, h2⟩ := h.2 i hl
    exact ⟨c, by rw [List.getElem?_append_left (by rw [h.1]; exact hl)]; exact h1, by rw [h2]; simp [List.getD_eq_getElem?_getD, List.getElem?_append_left hl]⟩
  · have : i = xs.length := by simp at hi; omega
    subst this
    exact ⟨b, by rw [← h.1]; simp, by simp⟩
/-- A list of numbers of one's own. -/
def RetFl2 (w : World) (xs : List Nat) (e : Ending) (w' : World) : Prop :=
  ∃ q c vs, e = .returned (.slice q xs.length c) ∧ w'.ownsRow w.heap.size 49 1 (.slice q xs.length c) xs.length vs ∧ F32s vs xs
theorem ownsRow_chg {w w' : World} {B e s n : Nat} {v : Value} {vs : List Value} {S : Nat → Prop} (h : w.ownsRow B e s v n vs) (x : Chg S w w') (hS : ∀ k, v.ownBlock = some k → ¬ S k) : w'.ownsRow B e s v n vs := by
  have hlt0 := own_lt h
  obtain ⟨h1, h2⟩ := h
  refine ⟨h1, ?_⟩
  rcases h2 with h2 | ⟨g, cap, cur, hv, hg, hh, r⟩
  · exact .inl h2
  · have hob : v.ownBlock = some g := by rw [hv]; rfl
    exact .inr ⟨g, cap, cur, hv, hg, by rw [x.block g (hlt0 g hob) (hS g hob)]; exact hh, r⟩
theorem chg_grown {S : Nat → Prop} {w wr w1 : World} {row : Option Nat} (h : Chg S w wr) (g : wr.grownBy w1 row) (ho : ∀ k, row = some k → w.heap.size ≤ k) : Chg S w w1 :=
  ⟨g.os.trans h.os, g.tape.trans h.tape, g.output.trans h.output, Nat.le_trans h.size g.size, fun k hk hn => (g.block k (Nat.lt_of_lt_of_le hk h.size) (fun hb => by have := ho k hb.symm; omega)).trans (h.block k hk hn)⟩
theorem SrcAt.blk {w : World} {b : Nat} {l : List UInt8} {f : Bool} (h : SrcAt w b l f) : b < w.heap.size := by
  unfold SrcAt at h
  by_cases hb : b < w.heap.size
  · exact hb
  · rw [Array.getElem?_eq_none (by omega)] at h; cases h
theorem SrcAt.grown {w w' : World} {b : Nat} {l : List UInt8} {f : Bool} {row : Option Nat} (h : SrcAt w b l f) (g : w.grownBy w' row) (hr : row ≠ some b) : SrcAt w' b l f := by
  have hb := h.blk
  unfold SrcAt at h ⊢
  rw [g.block b hb (fun e => hr e.symm)]; exact h
set_option maxRecDepth 100000 in
set_option maxHeartbeats 4000000 in
theorem list_any (b : Nat) (l : List UInt8) (n : Nat) (w : World) (h : SrcAt w b l false) (hn : l.length = 4 * n) (hl : n ≤ 4096) :
    Calls Try.prog 86 #[.pointer (some ⟨b, 0, none⟩), .int .i64 n] w fun e w' => RetFl2 w (numsF l n) e w' ∧ Chg (fun k => k = b) w w' := by
  have hb := h.c0
  have hblt : b < w.heap.size := by
    unfold SrcAt at h
    by_cases hb : b < w.heap.size
    · exact hb
    · rw [Array.getElem?_eq_none (by omega)] at h; cases h
  have hstart : (w.alloc (.cells #[] 49)).ownsRow w.heap.size 49 1 (.slice (some ⟨w.heap.size, 0, none⟩) 0 0) 0 [] := World.ownsRow_made w #[] 0 (Nat.le_refl _) (by decide) rfl
  have hsrc : SrcAt (w.alloc (.cells #[] 49)) b l false := by
    unfold SrcAt at h ⊢
    rw [(Ext.alloc w (.cells #[] 49)).block b hblt]; exact h
  have c0 : Chg (fun k => k = b) w (w.alloc (.cells #[] 49)) := .of_ext (Ext.alloc _ _)
  clear hb h
  go_enter Try.func86, Try.ntmps86
  go_wp2
  go_loopw [5, 6] (fun ov iv wr => ∃ (i : Nat) (vs : List Value) (q : Option Addr) (cq : Nat), i ≤ n ∧ iv = .int .i64 i ∧ ov = .slice q i cq ∧ wr.ownsRow w.heap.size 49 1 (.slice q i cq) i vs ∧ Hid (F32s vs (numsF l i)) ∧ SrcAt wr b (l.drop (4 * i)) false ∧ Chg (fun k => k = b) w wr) (fun _ iv _ => n - (intOf iv).toNat)
  case atStart => exact ⟨0, [], _, _, by omega, rfl, rfl, hstart, F32s.nil, by simpa using hsrc, c0⟩
  case round =>
    clear hstart hsrc c0
    obtain ⟨i, vs, q, cq, hi, rfl, rfl, own0, HF, src, hch⟩ := hrel
    have hB := hch.size
    have c1 := src.c1
    by_cases hlt : i < n
    · have hlen : (l.drop (4 * i)).length = 4 * n - 4 * i := by rw [List.length_drop, hn]
      have C := number_any b (l.drop (4 * i)) false 4 wr src (by omega) (by decide)
      rw [if_neg (by omega), if_neg (by omega), List.drop_drop] at C
      have hdf : (false || decide ((l.drop (4 * i)).length < 4)) = false := by rw [decide_eq_false (by omega)]; rfl
      rw [hdf, ← (rawN_bd l i).2] at C
      have hrb := (rawN_bd l i).1
      have Hs := hid (numsF_succ l i)
      generalize rawN l i = r at *
      have hxf := run_f32from (r : Int)
      rw [Int.toNat_natCast] at hxf
      clear hlen hdf
      go_wp2_with fail
      refine C.mono ?_
      rintro e w1 ⟨rfl, src1, ch1⟩
      have own1 := ownsRow_chg own0 ch1 (fun k hk => by have := own_le own0 k hk; omega)
      have hch1 := hch.trans ch1
      have hB1 := hch1.size
      go_wp2_with ((with_reducible show wpList _ _ _ (Oper.mk _ (Op.buildSlice _ _ _) _ _ _ _ :: Oper.mk _ (Op.call _) _ _ _ _ :: _) _ _); refine wl_app1b (u := .float .f32 r) rfl rfl rfl rfl rfl rfl rfl (fun _ => rfl) (fun _ => rfl) own1 (by unfold maxLen; omega) (by omega) (by omega) ?_; intro g c w2 own2 g2 hg2)
      go_roundw
      case rel =>
        have own3 : w2.ownsRow w.heap.size 49 1 (.slice (some ⟨g, 0, none⟩) (i + 1) c) (i + 1) (vs ++ [.float .f32 r]) := own2
        refine ⟨i + 1, vs ++ [.float .f32 r], _, _, by omega, by go_num, rfl, own3, ?_, ?_, chg_grown hch1 g2 (fun k hk => own_le own1 k hk)⟩
        · rw [Hid, Hs.out]; exact HF.out.snoc1 r
        · have h4 : 4 * (i + 1) = 4 * i + 4 := by omega
          rw [h4]
          exact src1.grown g2 (fun hk => by have := own_le own1 _ hk; omega)
      case measure => simp [intOf]; omega
    · obtain rfl : i = n := by omega
      go_wp2
      go_ret
      refine ⟨⟨q, cq, vs, ?_, ?_, HF.out⟩, hch⟩
      · rw [numsF_len]; rfl
      · rw [numsF_len]; exact own0
end Go.Proofs.Ytlimabbeaimdgaa
