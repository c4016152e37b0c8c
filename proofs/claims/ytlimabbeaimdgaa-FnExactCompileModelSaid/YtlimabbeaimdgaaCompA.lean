/- Lists of ones, by the program and by the reference. -/
import Derived.Test.YtlimabbeaimdgaaComp
import Derived.Test.YtlimabbeaimdgaaKb
namespace Go.Proofs.Ytlimabbeaimdgaa
set_option linter.unusedSimpArgs false
set_option linter.unusedVariables false
open Go.RowKit

theorem cn_oneB : cn .f32 1065353216 = oneB := by decide +kernel
theorem onesB_any {xs : List Nat} : anyTo (fun i => !feq .f32 (xs.getD i 0) oneB) xs.length = !onesB xs := by
  cases h : onesB xs
  · rw [Bool.not_false, anyTo_true]
    unfold onesB at h
    rw [List.all_eq_false] at h
    obtain ⟨x, hx, hf⟩ := h
    obtain ⟨i, hi, rfl⟩ := List.mem_iff_getElem.1 hx
    exact ⟨i, hi, by simpa [hi] using hf⟩
  · rw [Bool.not_true]
    refine anyTo_false fun i hi => ?_
    unfold onesB at h
    rw [List.all_eq_true] at h
    have := h xs[i] (by simp)
    simp [hi, this]
set_option maxRecDepth 100000 in
set_option maxHeartbeats 1000000 in
theorem oneClos_any (b : Nat) (w : World) : Calls Try.prog 131 #[.float .f32 b] w fun e w' => e = .returned (.bool (!feq .f32 (cn .f32 b) oneB)) ∧ Ext w w' := by
  go_enter Try.func131, Try.ntmps131
  go_wp2
  go_ret
  exact ⟨by rw [← cn_oneB, feq_cn]; rfl, Ext.refl _⟩
set_option maxRecDepth 100000 in
set_option maxHeartbeats 1000000 in
theorem areOnes_any (p : Option Addr) (n c : Nat) (us : List Value) (xs : List Nat) (w : World) (hx : xs.length = n) (hn : n ≤ maxLen) (hp : Cs w p us) (hf : F32s us xs) : Calls Try.prog 71 #[.slice p n c] w (RetB w (onesB xs)) := by
  have C := hid (fun W (h : Ext w W) => containsFuncF32_any 131 #[] (by intro args w; kernel_rfl) p n c us (fun i => !feq .f32 (xs.getD i 0) oneB) W (by rw [hf.1, hx]) hn (hp.ext h) (by
    intro i u W2 hu h2
    have hi : i < xs.length := by rw [← hf.1]; exact (List.getElem?_eq_some_iff.1 hu).1
    obtain ⟨b, h3, h4⟩ := hf.2 i hi
    rw [hu] at h3
    cases h3
    have := oneClos_any b W2
    rw [h4] at this
    simpa using this))
  rw [show anyTo (fun i => !feq .f32 (xs.getD i 0) oneB) n = !onesB xs from by rw [← hx]; exact onesB_any] at C
  generalize onesB xs = b at *
  clear hx hn hp hf
  cases b
  all_goals
    go_enter Try.func71, Try.ntmps71
    go_wp2_with fail
    refine (C.out _ (Ext.refl _)).mono ?_
    rintro e w1 ⟨rfl, e1⟩
    go_wp2
    go_ret
    exact ⟨rfl, e1⟩
theorem onesB_iff {xs : List Nat} : onesB xs = true ↔ ∀ i, i < xs.length → feq .f32 (xs.getD i 0) oneB = true := by
  unfold onesB
  rw [List.all_eq_true]
  constructor
  · intro h i hi
    have := h xs[i] (by simp)
    simpa [hi] using this
  · intro h x hx
    obtain ⟨i, hi, rfl⟩ := List.mem_iff_getElem.1 hx
    have := h i hi
    simpa [hi] using this
set_option maxRecDepth 100000 in
set_option maxHeartbeats 1000000 in
theorem l09Ones_any (p : Option Addr) (n c : Nat) (us : List Value) (xs : List Nat) (w : World) (hx : xs.length = n) (hn : n ≤ maxLen) (hp : Cs w p us) (hf : F32s us xs) : Calls Try.prog 128 #[.slice p n c] w (RetB w (onesB xs)) := by
  have HX := hid hx
  have HNo := hid (fun i (hi : i < n) (h : feq .f32 (xs.getD i 0) oneB = false) => show onesB xs = false from by
    cases ho : onesB xs
    · rfl
    · have := onesB_iff.1 ho i (by rw [hx]; exact hi); rw [h] at this; cases this)
  have HYes := hid (fun (h : ∀ i, i < n → feq .f32 (xs.getD i 0) oneB = true) => show onesB xs = true from onesB_iff.2 (fun i hi => h i (by rw [← hx]; exact hi)))
  generalize onesB xs = b at *
  clear hx
  unfold maxLen at hn
  go_enter Try.func128, Try.ntmps128
  go_wp2
  go_loopw [3] (fun iv wr => ∃ i : Nat, i ≤ n ∧ iv = .int .i64 i ∧ Hid (∀ j, j < i → feq .f32 (xs.getD j 0) oneB = true) ∧ Ext w wr) (fun iv _ => n - (intOf iv).toNat)
  case atStart => exact ⟨0, by omega, rfl, fun j hj => by omega, Ext.refl _⟩
  case round =>
    obtain ⟨i, hi, rfl, HAll, he⟩ := hrel
    by_cases hlt : i < n
    · obtain ⟨r, hr, hc⟩ := hf.2 i (by rw [HX.out]; exact hlt)
      have HR := hid hr
      have hh : feq .f32 (xs.getD i 0) oneB = feq .f32 r 1065353216 := by rw [← hc, ← cn_oneB, feq_cn]
      have Hh := hid hh
      have kp := hp.ext he
      have hl : us.length = n := by rw [hf.1]; exact HX.out
      have Hl := hid hl
      clear hr hc hh hl
      cases hb : feq .f32 r 1065353216
      · have hno := HNo.out i hlt (by rw [Hh.out]; exact hb)
        subst hno
        have hq : (FloatKind.f32.format.order r 1065353216 != some Ordering.eq) = true := by show (!feq .f32 r 1065353216) = true; rw [hb]; rfl
        clear hb
        go_wp2_with ((with_reducible show wpList _ _ _ (Oper.mk _ (Op.indexAddr _ _ _) _ _ _ _ :: Oper.mk _ (Op.load _ _) _ _ _ _ :: _) _ _); refine wl_idxload rfl rfl rfl rfl (fun _ => rfl) rfl rfl kp Hl.out (by omega) (by omega) ?_; intro u hu; rw [Int.toNat_natCast] at hu; replace hu := HR.out.symm.trans hu; cases hu)
        go_ret
        exact ⟨rfl, he⟩
      · have Hb := hid hb
        have hq : (FloatKind.f32.format.order r 1065353216 != some Ordering.eq) = false := by show (!feq .f32 r 1065353216) = false; rw [hb]; rfl
        clear hb
        go_wp2_with ((with_reducible show wpList _ _ _ (Oper.mk _ (Op.indexAddr _ _ _) _ _ _ _ :: Oper.mk _ (Op.load _ _) _ _ _ _ :: _) _ _); refine wl_idxload rfl rfl rfl rfl (fun _ => rfl) rfl rfl kp Hl.out (by omega) (by omega) ?_; intro u hu; rw [Int.toNat_natCast] at hu; replace hu := HR.out.symm.trans hu; cases hu)
        go_roundw
        case rel =>
          refine ⟨i + 1, by omega, by go_num, fun j hj => ?_, he⟩
          by_cases hji : j = i
          · subst hji; rw [Hh.out]; exact Hb.out
          · exact HAll.out j (by omega)
        case measure => simp [intOf]; omega
    · obtain rfl : i = n := by omega
      have hy := HYes.out HAll.out
      subst hy
      go_wp2
      go_ret
      exact ⟨rfl, he⟩
end Go.Proofs.Ytlimabbeaimdgaa
