/- Layers, models and states that are the same: the program's part. -/
import Derived.Test.YthphfmngofbabaaSameL
import Derived.Test.YthphfmngofbabaaAgg
import Derived.Test.YthphfmngofbabaaHTrainState
import Derived.Test.YthphfmngofbabaaOpen
namespace Go.Proofs.Ythphfmngofbabaa
set_option linter.unusedSimpArgs false
set_option linter.unusedVariables false
open Go.RowKit

/-- Equal data, by shape. -/
def listB {A : Type} (f : A → A → Bool) : List A → List A → Bool
  | [], [] => true
  | x :: xs, y :: ys => f x y && listB f xs ys
  | _, _ => false
def eqT : (s : Sh) → s.T → s.T → Bool
  | .int, a, b => decide ((a : Int) = b)
  | .flt, a, b => decide ((a : Nat) = b)
  | .bool, a, b => (a : Bool) == b
  | .str, a, b => decide ((a : ByteArray) = b)
  | .un, _, _ => true
  | .sl e, a, b => listB (eqT e) a b
  | .pr s t, a, b => eqT s a.1 b.1 && eqT t a.2 b.2
theorem listB_iff {A : Type} {f : A → A → Bool} (h : ∀ x y, f x y = true ↔ x = y) : ∀ {xs ys : List A}, listB f xs ys = true ↔ xs = ys
  | [], [] => by simp [listB]
  | [], y :: ys => by simp [listB]
  | x :: xs, [] => by simp [listB]
  | x :: xs, y :: ys => by rw [listB, Bool.and_eq_true, h, listB_iff h, List.cons.injEq]
theorem eqT_iff : ∀ (s : Sh) (a b : s.T), eqT s a b = true ↔ a = b
  | .int, a, b => by unfold eqT; exact decide_eq_true_iff
  | .flt, a, b => by unfold eqT; exact decide_eq_true_iff
  | .bool, a, b => by unfold eqT; exact beq_iff_eq
  | .str, a, b => by unfold eqT; exact decide_eq_true_iff
  | .un, a, b => by unfold eqT; exact ⟨fun _ => rfl, fun _ => rfl⟩
  | .sl e, a, b => by unfold eqT; exact listB_iff (eqT_iff e)
  | .pr s t, (a1, a2), (b1, b2) => by unfold eqT; rw [Bool.and_eq_true, eqT_iff s, eqT_iff t]; exact (Prod.mk.injEq _ _ _ _).symm.to_iff
theorem eqT_flts (xs ys : List Nat) : eqT (.sl .flt) xs ys = decide (xs = ys) := by
  rw [Bool.eq_iff_iff, eqT_iff]; exact decide_eq_true_iff.symm
/-- Elements at one place. -/
def atB {A : Type} (f : A → A → Bool) (l m : List A) (i : Nat) : Bool :=
  match l[i]?, m[i]? with
  | some x, some y => f x y
  | _, _ => true
theorem atB_in {A : Type} {f : A → A → Bool} {l m : List A} {i : Nat} {x y : A} (hx : l[i]? = some x) (hy : m[i]? = some y) : atB f l m i = f x y := by unfold atB; rw [hx, hy]
theorem eqT_list (e : Sh) (l m : List e.T) : (decide (l.length = m.length) && !anyTo (fun i => !atB (eqT e) l m i) l.length) = eqT (.sl e) l m := by
  rw [Bool.eq_iff_iff, eqT_iff]
  simp only [Bool.and_eq_true, decide_eq_true_eq, Bool.not_eq_true']
  constructor
  · rintro ⟨h1, h2⟩
    refine List.ext_getElem h1 fun i a b => ?_
    have h3 : atB (eqT e) l m i = true := by
      cases h : atB (eqT e) l m i
      · rw [Bool.eq_false_iff] at h2
        exact absurd (anyTo_true.2 ⟨i, a, by rw [h]; rfl⟩) h2
      · rfl
    rw [atB_in (x := l[i]) (y := m[i]) (by simp) (by simp)] at h3
    exact (eqT_iff e _ _).1 h3
  · rintro rfl
    refine ⟨rfl, anyTo_false fun j hj => ?_⟩
    rw [atB_in (x := l[j]) (y := l[j]) (by simp) (by simp)]
    rw [(eqT_iff e _ _).2 rfl]; rfl

set_option maxRecDepth 100000 in
set_option maxHeartbeats 1000000 in
theorem equalLay_any (fn : Nat) (eg : ∀ args w, (callFunc fn args).run Try.prog w = .ok (.enter fn args) w) (p q : Option Addr) (n m c d : Nat) (css dss : List (List Value)) (f : Nat → Bool) (w : World) (hn : n ≤ maxLen)
    (a2 : Cs w p css.flatten) (ao : ∀ c ∈ css, ∀ u ∈ c, u.oneCell' = true) (a6 : ∀ c ∈ css, c.length = shLayer.sz) (a7 : css.length = n)
    (b2 : Cs w q dss.flatten) (bo : ∀ c ∈ dss, ∀ u ∈ c, u.oneCell' = true) (b6 : ∀ c ∈ dss, c.length = shLayer.sz) (b7 : dss.length = m)
    (hf : ∀ i ci di W, css[i]? = some ci → dss[i]? = some di → Ext w W → Calls Try.prog fn #[ofCs shLayer ci, ofCs shLayer di] W (RetB W (f i))) :
    Calls Try.prog 118 #[.slice p n c, .slice q m d, .func (.func fn) #[] #[]] w (RetB w (decide (n = m) && !anyTo (fun i => !f i) n)) := by
  unfold maxLen at hn
  by_cases hnm : n = m
  · subst hnm
    have Hf := hid hf
    have Hn := hid hn
    have Ao := hid ao
    have Bo := hid bo
    have A6 := hid a6
    have B6 := hid b6
    have A7 := hid a7
    have B7 := hid b7
    clear hf ao bo a6 b6 a7 b7
    go_enter Try.func118, Try.ntmps118
    go_wp2
    go_loopw [17] (fun iv wr => ∃ i : Nat, i ≤ n ∧ iv = .int .i64 i ∧ Hid (∀ j, j < i → f j = true) ∧ Ext w wr) (fun iv _ => n - (intOf iv).toNat)
    case atStart => exact ⟨0, by omega, rfl, hid (fun j hj => absurd hj (Nat.not_lt_zero j)), Ext.refl w⟩
    case round =>
      obtain ⟨i, hi, rfl, Hall, he⟩ := hrel
      by_cases hlt : i < n
      · have hp' := a2.ext he
        have hq' := b2.ext he
        obtain ⟨ci, e1⟩ : ∃ ci, css[i]? = some ci := ⟨_, List.getElem?_eq_getElem (by rw [A7.out]; exact hlt)⟩
        obtain ⟨di, e2⟩ : ∃ di, dss[i]? = some di := ⟨_, List.getElem?_eq_getElem (by rw [B7.out]; exact hlt)⟩
        have L1 := hid (A6.out ci (List.mem_of_getElem? e1))
        have L2 := hid (B6.out di (List.mem_of_getElem? e2))
        have O1 := hid (Ao.out ci (List.mem_of_getElem? e1))
        have O2 := hid (Bo.out di (List.mem_of_getElem? e2))
        have hs1 := a2.some_of A6.out (by decide) (show 0 < css.length by rw [A7.out]; omega)
        have hs2 := b2.some_of B6.out (by decide) (show 0 < dss.length by rw [B7.out]; omega)
        have C := hid (fun W (h : Ext wr W) => Hf.out i ci di W e1 e2 (he.trans h))
        have E1 := hid e1
        have E2 := hid e2
        obtain ⟨b, hb⟩ : ∃ b, f i = b := ⟨_, rfl⟩
        rw [hb] at C
        have Hb := hid hb
        clear hb e1 e2
        cases b with
        | true =>
          go_wp2_with (first | (go_at_fn fn; refine (C.out _ (E5.trans E6)).mono ?_; rintro e w7 ⟨rfl, e7⟩) | (refine wl_idxloadE (s := shLayer) (j := i) rfl rfl rfl rfl (fun _ => rfl) rfl rfl rfl hp' A6.out A7.out hlt hs1 E1.out ?_) | (refine wl_stA (s := shLayer) (cs := ci) rfl rfl rfl rfl (heap_alloc_new _ _) rfl L1.out O1.out (by decide) ?_; intro w5 c5 ch5; have E5 : Ext wr w5 := (Ext.alloc _ _).chg ch5 (fun b hb => by subst hb; exact Nat.le_refl _); clear ch5) | (refine wl_idxloadE (s := shLayer) (j := i) rfl rfl rfl rfl (fun _ => rfl) rfl rfl rfl (hq'.ext E5) B6.out B7.out hlt hs2 E2.out ?_) | (refine wl_stA (s := shLayer) (cs := di) rfl rfl rfl rfl (heap_alloc_new _ _) rfl L2.out O2.out (by decide) ?_; intro w6 c6 ch6; have E6 : Ext w5 w6 := (Ext.alloc _ _).chg ch6 (fun b hb => by subst hb; exact Nat.le_refl _); clear ch6; have c5' := c5.ext E6) | (refine wl_ldA (s := shLayer) (cs := ci) rfl rfl rfl c5' L1.out ?_) | (refine wl_ldA (s := shLayer) (cs := di) rfl rfl rfl c6 L2.out ?_))
          go_roundw
          case rel =>
            refine ⟨i + 1, by omega, by go_num, hid fun j hj => ?_, ((he.trans E5).trans E6).trans e7⟩
            by_cases hji : j = i
            · subst hji; exact Hb.out
            · exact Hall.out j (by omega)
          case measure => simp [intOf]; omega
        | false =>
          go_wp2_with (first | (go_at_fn fn; refine (C.out _ (E5.trans E6)).mono ?_; rintro e w7 ⟨rfl, e7⟩) | (refine wl_idxloadE (s := shLayer) (j := i) rfl rfl rfl rfl (fun _ => rfl) rfl rfl rfl hp' A6.out A7.out hlt hs1 E1.out ?_) | (refine wl_stA (s := shLayer) (cs := ci) rfl rfl rfl rfl (heap_alloc_new _ _) rfl L1.out O1.out (by decide) ?_; intro w5 c5 ch5; have E5 : Ext wr w5 := (Ext.alloc _ _).chg ch5 (fun b hb => by subst hb; exact Nat.le_refl _); clear ch5) | (refine wl_idxloadE (s := shLayer) (j := i) rfl rfl rfl rfl (fun _ => rfl) rfl rfl rfl (hq'.ext E5) B6.out B7.out hlt hs2 E2.out ?_) | (refine wl_stA (s := shLayer) (cs := di) rfl rfl rfl rfl (heap_alloc_new _ _) rfl L2.out O2.out (by decide) ?_; intro w6 c6 ch6; have E6 : Ext w5 w6 := (Ext.alloc _ _).chg ch6 (fun b hb => by subst hb; exact Nat.le_refl _); clear ch6; have c5' := c5.ext E6) | (refine wl_ldA (s := shLayer) (cs := ci) rfl rfl rfl c5' L1.out ?_) | (refine wl_ldA (s := shLayer) (cs := di) rfl rfl rfl c6 L2.out ?_))
          go_ret
          refine ⟨?_, ((he.trans E5).trans E6).trans e7⟩
          have : anyTo (fun i => !f i) n = true := anyTo_true.2 ⟨i, hlt, by rw [Hb.out]; rfl⟩
          rw [this]; simp
      · obtain rfl : i = n := by omega
        go_wp2
        go_ret
        refine ⟨?_, he⟩
        have : anyTo (fun i => !f i) i = false := anyTo_false fun j hj => by rw [Hall.out j hj]; rfl
        rw [this]; simp
  · have h : decide (n = m) = false := decide_eq_false hnm
    rw [h, Bool.false_and]
    clear h hf eg
    go_enter Try.func118, Try.ntmps118
    go_wp2
    go_ret
    exact ⟨rfl, Ext.refl w⟩
end Go.Proofs.Ythphfmngofbabaa
