/- Lists of whole numbers that are drawn; lists of numbers out of bytes. -/
import Derived.Test.YtlimabbeaimdgaaDr3
namespace Go.Proofs.Ytlimabbeaimdgaa
set_option linter.unusedSimpArgs false
set_option linter.unusedVariables false
open Go.RowKit

theorem chg_new {w w0 w' : World} {sb : Nat} (e : Ext w w0) (k : Chg (fun b => b = sb) w0 w') (h : w.heap.size ≤ sb) : Ext w w' :=
  e.chg k (fun b hb => by subst hb; exact h)
set_option maxRecDepth 100000 in
set_option maxHeartbeats 4000000 in
theorem B10Whole_any (p : Option Addr) (n c : Nat) (bs : List Nat) (N most : Nat) (w : World) (hc : Cs w p (u8s bs)) (hl : bs.length = n) (hn : n ≤ 1048576) (hb : ∀ b ∈ bs, b < 256) (hN : N ≤ 100000) (hm : most ≤ 1000) :
    Calls Try.prog 23 #[.slice p n c, .int .i64 N, .int .i64 most] w fun e w' => ∃ zs : List Int, zs.length = N ∧ (∀ z ∈ zs, -(most : Int) ≤ z ∧ z ≤ most) ∧ RetFl w (zs.map FloatKind.f32.nearest) e w' := by
  go_enter Try.func23, Try.ntmps23
  go_wp2_with fail
  refine (l00From_any p n c bs w hc hl hn hb).mono ?_
  rintro e w1 ⟨rfl, src, e1⟩
  have hsb := src.lt
  have hstart : (w1.alloc (.cells #[] 49)).ownsRow w1.heap.size 49 1 (.slice (some ⟨w1.heap.size, 0, none⟩) 0 0) 0 [] := World.ownsRow_made w1 #[] 0 (Nat.le_refl _) (by decide) rfl
  have hsrc := src.ext (Ext.alloc w1 (.cells #[] 49))
  have E1 := e1.trans (Ext.alloc w1 (.cells #[] 49))
  have hs1 : w1.heap.size ≤ (w1.alloc (.cells #[] 49)).heap.size := (Ext.alloc w1 (.cells #[] 49)).size
  have hsz := e1.size
  clear src
  go_wp2
  go_loopw [1, 8] (fun nv ov wr => ∃ (i : Nat) (vs : List Value) (zs : List Int) (q : Option Addr) (cq : Nat), i ≤ N ∧ nv = .int .i64 ((N : Int) - (i : Int)) ∧ ov = .slice q i cq ∧ wr.ownsRow w1.heap.size 49 1 (.slice q i cq) i vs ∧ Hid (F32s vs (zs.map FloatKind.f32.nearest)) ∧ Hid (zs.length = i ∧ ∀ z ∈ zs, -(most : Int) ≤ z ∧ z ≤ most) ∧ DrAt wr w.heap.size (i * 2) ∧ Ext w wr ∧ w1.heap.size ≤ wr.heap.size) (fun nv _ _ => (intOf nv).toNat)
  case atStart => exact ⟨0, [], [], _, _, by omega, by simp, rfl, hstart, F32s.nil, hid ⟨rfl, fun z hz => by simp at hz⟩, hsrc, E1, hs1⟩
  case round =>
    clear hstart hsrc hs1 E1
    obtain ⟨i, vs, zs, q, cq, hi, rfl, rfl, own0, HF, HX, src, hch, hB⟩ := hrel
    by_cases hlt : i < N
    · have hgt : decide (0 < (N : Int) - (i : Int)) = true := by simp; omega
      have hw : IntKind.i64.wrap (IntKind.i64.wrap (2 * (most : Int)) + 1) = 2 * (most : Int) + 1 := by rw [show IntKind.i64.wrap (2 * (most : Int)) = 2 * (most : Int) from wrap_in _ (by omega) (by omega)]; exact wrap_in _ (by omega) (by omega)
      go_wp2_with fail
      refine (drPick_any w.heap.size (i * 2) (2 * (most : Int) + 1) wr src (by omega) (by omega)).mono ?_
      rintro e w2 ⟨x, rfl, hx, hx2, src1, ch1⟩
      have hxm := hx (by omega)
      have own1 := ownsRow_chg own0 ch1 (fun k hk => by have := own_le own0 k hk; omega)
      have hch1 := chg_new hch ch1 (Nat.le_refl _)
      have hB1 := ch1.size
      have hwx : IntKind.i64.wrap ((x : Int) - (most : Int)) = (x : Int) - (most : Int) := wrap_in _ (by omega) (by omega)
      clear hx hx2
      go_wp2_with ((with_reducible show wpList _ _ _ (Oper.mk _ (Op.buildSlice _ _ _) _ _ _ _ :: Oper.mk _ (Op.call _) _ _ _ _ :: _) _ _); refine wl_app1b (u := .float .f32 (FloatKind.f32.nearest ((x : Int) - (most : Int)))) rfl rfl rfl rfl rfl rfl rfl (fun _ => rfl) (fun _ => rfl) own1 (by unfold maxLen; omega) (by omega) (by omega) ?_; intro g c w3 own2 g2 hg2)
      go_roundw
      case rel =>
        have own3 : w3.ownsRow w1.heap.size 49 1 (.slice (some ⟨g, 0, none⟩) (i + 1) c) (i + 1) (vs ++ [.float .f32 (FloatKind.f32.nearest ((x : Int) - (most : Int)))]) := own2
        refine ⟨i + 1, _, zs ++ [(x : Int) - (most : Int)], _, _, by omega, by go_num, rfl, own3, ?_, hid ⟨by rw [List.length_append, HX.out.1]; rfl, ?_⟩, ?_, hch1.grown g2 (fun k hk => by have := own_le own1 k hk; omega), Nat.le_trans hB (Nat.le_trans hB1 g2.size)⟩
        · have := HF.out.snoc1 (FloatKind.f32.nearest ((x : Int) - (most : Int)))
          rw [cn_nearest] at this
          rw [Hid, List.map_append]
          exact this
        · intro z hz
          rcases List.mem_append.1 hz with hz | hz
          · exact HX.out.2 z hz
          · simp at hz; subst hz; omega
        · exact (src1.chg (.of_grown g2) (fun b hb => by have := own_le own1 b hb.symm; omega)).mono (by omega)
      case measure => simp [intOf]; omega
    · obtain rfl : i = N := by omega
      go_wp2
      go_ret
      have hl := HX.out.1
      exact ⟨zs, hl, HX.out.2, q, cq, vs, by rw [List.length_map, hl]; rfl, by rw [List.length_map, hl]; exact own_base own0 hsz, HF.out, hch⟩
/-- Some list of so many numbers. -/
def GotL (N : Nat) (w : World) (e : Ending) (w' : World) : Prop := ∃ xs : List Nat, xs.length = N ∧ (∀ x ∈ xs, x < 4294967296) ∧ RetFl w xs e w'
theorem gotFs_list {w w1 w' : World} {sb K N : Nat} {e : Ending} (h : GotFs sb K N w1 e w') (e1 : Ext w w1) (hs : w.heap.size ≤ sb) : GotL N w e w' := by
  obtain ⟨xs, h1, hb, ⟨q, c, vs, h2, h3, h4⟩, h5, h6⟩ := h
  exact ⟨xs, h1, hb, q, c, vs, h2, own_base h3 e1.size, h4, chg_new e1 h6 hs⟩
set_option maxRecDepth 100000 in
set_option maxHeartbeats 1000000 in
theorem B10Numbers_any (p : Option Addr) (n c : Nat) (bs : List Nat) (N : Nat) (w : World) (hc : Cs w p (u8s bs)) (hl : bs.length = n) (hn : n ≤ 1048576) (hb : ∀ b ∈ bs, b < 256) (hN : N ≤ 100000) :
    Calls Try.prog 24 #[.slice p n c, .int .i64 N] w (GotL N w) := by
  go_enter Try.func24, Try.ntmps24
  go_wp2_with fail
  refine (l00From_any p n c bs w hc hl hn hb).mono ?_
  rintro e w1 ⟨rfl, src, e1⟩
  go_wp2_with fail
  refine ((drFloats_any w.heap.size 0 N w1 src hN (by omega)).mono fun e w2 h => gotFs_list h e1 (Nat.le_refl _)).mono ?_
  rintro e w2 ⟨xs, hx, hb, q, c2, vs, rfl, h3⟩
  go_wp2
  go_ret
  exact ⟨xs, hx, hb, q, c2, vs, by rw [hx]; rfl, h3⟩
set_option maxRecDepth 100000 in
set_option maxHeartbeats 1000000 in
theorem R8Numbers_any (p : Option Addr) (n c : Nat) (bs : List Nat) (M : Nat) (w : World) (hc : Cs w p (u8s bs)) (hl : bs.length = n) (hn : n ≤ 1048576) (hb : ∀ b ∈ bs, b < 256) (hM : M ≤ 10000) :
    Calls Try.prog 28 #[.slice p n c, .int .i64 M] w fun e w' => ∃ N, N ≤ M ∧ GotL N w e w' := by
  go_enter Try.func28, Try.ntmps28
  go_wp2_with fail
  refine (l00From_any p n c bs w hc hl hn hb).mono ?_
  rintro e w1 ⟨rfl, src, e1⟩
  go_wp2_with fail
  refine (drPick_any w.heap.size 0 ((M : Int) + 1) w1 src (by omega) (by omega)).mono ?_
  rintro e w2 ⟨x, rfl, hx, hx2, src2, c2⟩
  have hxM := hx (by omega)
  have e2 := chg_new e1 c2 (Nat.le_refl _)
  clear hx hx2
  go_wp2_with fail
  refine ((drFloats_any w.heap.size 2 x w2 (src2.mono (by omega)) (by omega) (by omega)).mono fun e w3 h => gotFs_list h e2 (Nat.le_refl _)).mono ?_
  rintro e w3 ⟨xs, hx, hb, q, c2, vs, rfl, h3⟩
  go_wp2
  go_ret
  exact ⟨x, by omega, xs, hx, hb, q, c2, vs, by rw [hx]; rfl, h3⟩
/-- A tensor of drawn numbers. -/
def GotT (R C : Nat) (w : World) (e : Ending) (w' : World) : Prop := ∃ (xs : List Nat) (q : Option Addr) (c : Nat) (vs : List Value), e = .returned (.agg #[.int .i64 R, .int .i64 C, .slice q (R * C) c]) ∧ xs.length = R * C ∧ (∀ x ∈ xs, x < 4294967296) ∧ w'.ownsRow w.heap.size 49 1 (.slice q (R * C) c) (R * C) vs ∧ F32s vs xs ∧ Ext w w'
end Go.Proofs.Ytlimabbeaimdgaa
