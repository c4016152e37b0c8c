/- Lists of numbers that are drawn. -/
import Derived.Test.YtlimabbeaimdgaaDr2
import Derived.Test.YtlimabbeaimdgaaKd
import Derived.Test.YtlimabbeaimdgaaGrowX
import Derived.Test.YtlimabbeaimdgaaEx2
namespace Go.Proofs.Ytlimabbeaimdgaa
set_option linter.unusedSimpArgs false
set_option linter.unusedVariables false
open Go.RowKit

theorem GotF.mono {sb K K' : Nat} {w w' : World} {e : Ending} (h : GotF sb K w e w') (k : K ≤ K') : GotF sb K' w e w' := by
  obtain ⟨b, h1, hb, h2, h3⟩ := h
  exact ⟨b, h1, hb, h2.mono k, h3⟩
set_option maxRecDepth 100000 in
set_option maxHeartbeats 4000000 in
theorem drFloat_any (sb K : Nat) (w : World) (h : DrAt w sb K) (hK : K ≤ 700000000) : Calls Try.prog 138 #[.pointer (some ⟨sb, 0, none⟩)] w (GotF sb (K + 30) w) := by
  have HLT := hid h.lt
  go_enter Try.func138, Try.ntmps138
  go_wp2_with fail
  refine (drOne_any sb K 12 w h (by omega) (by omega)).mono ?_
  rintro e w1 ⟨b, rfl, s1, c1⟩
  have S1 := hid s1
  clear s1 h
  cases b
  · go_wp2_with fail
    refine (drPlain_any sb (K + 2) w1 S1.out (by omega)).mono ?_
    rintro e w2 ⟨b, rfl, hb, s2, c2⟩
    have S2 := hid s2
    clear s2
    go_wp2
    go_ret
    exact ⟨b, rfl, hb, S2.out.mono (by omega), c1.trans c2⟩
  · go_wp2_with fail
    refine (drPick_any sb (K + 2) 4 w1 S1.out (by omega) (by omega)).mono ?_
    rintro e w2 ⟨x, rfl, hx, hx2, s2, c2⟩
    have S2 := hid s2
    have C2 := hid (c1.trans c2)
    have HLT2 := hid s2.lt
    clear s2 c1 c2 hx hx2
    by_cases h0 : x = 0
    · subst h0
      have k1 := HB.new w2 #[.int .i64 0, .int .i64 2147483648, .int .i64 2139095040, .int .i64 4286578688, .int .i64 2143289344, .int .i64 1, .int .i64 2139095039, .int .i64 8388608, .int .i64 8388607, .int .i64 2147483649] 2
      have e3 := Ext.alloc w2 (.cells #[.int .i64 0, .int .i64 2147483648, .int .i64 2139095040, .int .i64 4286578688, .int .i64 2143289344, .int .i64 1, .int .i64 2139095039, .int .i64 8388608, .int .i64 8388607, .int .i64 2147483649] 2)
      obtain ⟨w3, hw3⟩ : ∃ w3, w3 = w2.alloc (.cells #[.int .i64 0, .int .i64 2147483648, .int .i64 2139095040, .int .i64 4286578688, .int .i64 2143289344, .int .i64 1, .int .i64 2139095039, .int .i64 8388608, .int .i64 8388607, .int .i64 2147483649] 2) := ⟨_, rfl⟩
      rw [← hw3] at k1 e3
      have K1 := hid (cs_heap k1)
      clear k1
      go_wp2_with fail
      rw [← hw3]
      clear hw3
      refine (drAmong_any sb (K + 4) _ 10 10 [0, 2147483648, 2139095040, 4286578688, 2143289344, 1, 2139095039, 8388608, 8388607, 2147483649] w3 (S2.out.ext e3) (by omega) K1.out rfl (by omega) (by omega) (fun a ha => by cases ha; exact HLT2.out)).mono ?_
      rintro e w4 ⟨z, _, rfl, s4, c4⟩
      have S4 := hid s4
      clear s4
      go_wp2_with fail
      refine (l01From_any z w4).mono ?_
      rintro e w5 ⟨⟨b, rfl, hb⟩, e5⟩
      go_wp2
      go_ret
      exact ⟨b, rfl, hb, (S4.out.ext e5).mono (by omega), ((C2.out.trans (.of_ext e3)).trans c4).trans (.of_ext e5)⟩
    by_cases h1 : x = 1
    · subst h1
      go_wp2_with fail
      refine (drPick_any sb (K + 4) 65536 w2 S2.out (by omega) (by omega)).mono ?_
      rintro e w3 ⟨y, rfl, _, _, s3, c3⟩
      have S3 := hid s3
      clear s3
      go_wp2_with fail
      refine (drPick_any sb (K + 6) 65536 w3 S3.out (by omega) (by omega)).mono ?_
      rintro e w4 ⟨z, rfl, _, _, s4, c4⟩
      have S4 := hid s4
      clear s4
      go_wp2_with fail
      refine (l01From_any _ w4).mono ?_
      rintro e w5 ⟨⟨b, rfl, hb⟩, e5⟩
      go_wp2
      go_ret
      exact ⟨b, rfl, hb, (S4.out.ext e5).mono (by omega), ((C2.out.trans c3).trans c4).trans (.of_ext e5)⟩
    have n1 : ((x : Int) = 1) = False := by simp; omega
    have n0 : ((x : Int) = 0) = False := by simp; omega
    by_cases h2 : x = 2
    · subst h2
      go_wp2_with fail
      refine (drPick_any sb (K + 4) 65536 w2 S2.out (by omega) (by omega)).mono ?_
      rintro e w3 ⟨y, rfl, _, _, s3, c3⟩
      have S3 := hid s3
      clear s3
      go_wp2_with fail
      refine (l01From_any _ w3).mono ?_
      rintro e w5 ⟨⟨b, rfl, hb⟩, e5⟩
      go_wp2
      go_ret
      exact ⟨b, rfl, hb, (S3.out.ext e5).mono (by omega), (C2.out.trans c3).trans (.of_ext e5)⟩
    have n2 : ((x : Int) = 2) = False := by simp; omega
    go_wp2_with fail
    refine (drPlain_any sb (K + 4) w2 S2.out (by omega)).mono ?_
    rintro e w3 ⟨bx, rfl, _, s3, c3⟩
    have S3 := hid s3
    have HLT3 := hid s3.lt
    clear s3
    have k1 := HB.new w3 #[.int .i64 8388608, .int .i64 2130706432, .int .i64 1610612736, .int .i64 536870912] 2
    have e3 := Ext.alloc w3 (.cells #[.int .i64 8388608, .int .i64 2130706432, .int .i64 1610612736, .int .i64 536870912] 2)
    obtain ⟨w4, hw4⟩ : ∃ w4, w4 = w3.alloc (.cells #[.int .i64 8388608, .int .i64 2130706432, .int .i64 1610612736, .int .i64 536870912] 2) := ⟨_, rfl⟩
    rw [← hw4] at k1 e3
    have K1 := hid (cs_heap k1)
    clear k1
    go_wp2_with fail
    rw [← hw4]
    clear hw4
    refine (drAmong_any sb (K + 8) _ 4 4 [8388608, 2130706432, 1610612736, 536870912] w4 (S3.out.ext e3) (by omega) K1.out rfl (by omega) (by omega) (fun a ha => by cases ha; exact HLT3.out)).mono ?_
    rintro e w5 ⟨z, _, rfl, s5, c5⟩
    have S5 := hid s5
    clear s5
    go_wp2_with fail
    refine (l01From_any z w5).mono ?_
    rintro e w6 ⟨⟨b, rfl, hb⟩, e6⟩
    go_wp2_with ((with_reducible show wpList _ _ _ (Oper.mk _ (Op.binOp _ _ _ _ _) _ _ _ _ :: _) _ _); refine wl_fop rfl rfl rfl rfl rfl ?_; intro r0 w0 e0 g0; have G0 := hid g0; clear g0)
    go_ret
    exact ⟨_, rfl, by rw [G0.out]; exact fop_lt _ _ _, ((S5.out.ext e6).ext e0).mono (by omega), (((C2.out.trans c3).trans (.of_ext e3)).trans c5).trans (.of_ext (e6.trans e0))⟩
/-- A list of so many numbers, of one's own. -/
def GotFs (sb K n : Nat) (w : World) (e : Ending) (w' : World) : Prop := ∃ xs : List Nat, xs.length = n ∧ (∀ x ∈ xs, x < 4294967296) ∧ RetFl2 w xs e w' ∧ DrAt w' sb K ∧ Chg (fun k => k = sb) w w'
set_option maxRecDepth 100000 in
set_option maxHeartbeats 4000000 in
theorem drFloats_any (sb K n : Nat) (w : World) (h : DrAt w sb K) (hn : n ≤ 100000) (hK : K ≤ 100000000) : Calls Try.prog 80 #[.pointer (some ⟨sb, 0, none⟩), .int .i64 n] w (GotFs sb (K + 2 + n * 30) n w) := by
  have hlt0 := h.lt
  have hstart : (w.alloc (.cells #[] 49)).ownsRow w.heap.size 49 1 (.slice (some ⟨w.heap.size, 0, none⟩) 0 0) 0 [] := World.ownsRow_made w #[] 0 (Nat.le_refl _) (by decide) rfl
  have hsrc := h.ext (Ext.alloc w (.cells #[] 49))
  have c0 : Chg (fun k => k = sb) w (w.alloc (.cells #[] 49)) := .of_ext (Ext.alloc _ _)
  obtain ⟨w0, hw0⟩ : ∃ w0, w0 = w.alloc (.cells #[] 49) := ⟨_, rfl⟩
  rw [← hw0] at hstart hsrc c0
  clear h
  go_enter Try.func80, Try.ntmps80
  go_wp2_with fail
  rw [← hw0]
  clear hw0
  refine (drOne_any sb K 4 w0 hsrc (by omega) (by omega)).mono ?_
  rintro e w1 ⟨sg, rfl, s1, c1⟩
  have O1 := ownsRow_chg hstart c1 (fun k hk => by have := own_le hstart k hk; omega)
  have C1 := c0.trans c1
  clear hstart hsrc c0 c1
  go_wp2
  go_loopw [1, 5] (fun nv ov wr => ∃ (i : Nat) (vs : List Value) (xs : List Nat) (q : Option Addr) (cq : Nat), i ≤ n ∧ nv = .int .i64 ((n : Int) - (i : Int)) ∧ ov = .slice q i cq ∧ wr.ownsRow w.heap.size 49 1 (.slice q i cq) i vs ∧ Hid (F32s vs xs) ∧ Hid (xs.length = i ∧ ∀ x ∈ xs, x < 4294967296) ∧ DrAt wr sb (K + 2 + i * 30) ∧ Chg (fun k => k = sb) w wr) (fun nv _ _ => (intOf nv).toNat)
  case atStart => exact ⟨0, [], [], _, _, by omega, by simp, rfl, O1, F32s.nil, hid ⟨rfl, fun x hx => by simp at hx⟩, by simpa using s1, C1⟩
  case round =>
    clear O1 C1 s1
    obtain ⟨i, vs, xs, q, cq, hi, rfl, rfl, own0, HF, HX, src, hch⟩ := hrel
    have hB := hch.size
    by_cases hlt : i < n
    · have hgt : decide (0 < (n : Int) - (i : Int)) = true := by simp; omega
      have C : ∀ e w1, GotF sb (K + 2 + i * 30 + 30) wr e w1 → ∃ r : Nat, e = .returned (.float .f32 r) ∧ cn .f32 r < 4294967296 ∧ DrAt w1 sb (K + 2 + i * 30 + 30) ∧ Chg (fun k => k = sb) wr w1 := fun e w1 h => h
      cases sg
      all_goals
        go_wp2_with fail
        first
          | refine ((drPlain_any sb (K + 2 + i * 30) wr src (by omega)).mono fun e w2 h => C e w2 (h.mono (by omega))).mono ?_
          | refine ((drFloat_any sb (K + 2 + i * 30) wr src (by omega)).mono fun e w2 h => C e w2 (h.mono (by omega))).mono ?_
        rintro e w1 ⟨r, rfl, hr, src1, ch1⟩
        have own1 := ownsRow_chg own0 ch1 (fun k hk => by have := own_le own0 k hk; omega)
        have hch1 := hch.trans ch1
        have hB1 := hch1.size
        go_wp2_with ((with_reducible show wpList _ _ _ (Oper.mk _ (Op.buildSlice _ _ _) _ _ _ _ :: Oper.mk _ (Op.call _) _ _ _ _ :: _) _ _); refine wl_app1b (u := .float .f32 r) rfl rfl rfl rfl rfl rfl rfl (fun _ => rfl) (fun _ => rfl) own1 (by unfold maxLen; omega) (by omega) (by omega) ?_; intro g c w2 own2 g2 hg2)
        go_roundw
        case rel =>
          have own3 : w2.ownsRow w.heap.size 49 1 (.slice (some ⟨g, 0, none⟩) (i + 1) c) (i + 1) (vs ++ [.float .f32 r]) := own2
          refine ⟨i + 1, vs ++ [.float .f32 r], xs ++ [cn .f32 r], _, _, by omega, by go_num, rfl, own3, hid (HF.out.snoc1 r), hid ⟨by rw [List.length_append, HX.out.1]; rfl, fun x hx => by rcases List.mem_append.1 hx with hx | hx; exact HX.out.2 x hx; simp at hx; subst hx; exact hr⟩, ?_, chg_grown hch1 g2 (fun k hk => own_le own1 k hk)⟩
          refine (src1.chg (.of_grown g2) (fun b hb => by have := own_le own1 b hb.symm; omega)).mono (by omega)
        case measure => simp [intOf]; omega
    · obtain rfl : i = n := by omega
      go_wp2
      go_ret
      exact ⟨xs, HX.out.1, HX.out.2, ⟨q, cq, vs, by rw [HX.out.1]; rfl, by rw [HX.out.1]; exact own0, HF.out⟩, src, hch⟩
end Go.Proofs.Ytlimabbeaimdgaa
