/- Lists of integers and of texts: their cells. -/
import Derived.Test.YtnlhahlegedlaaaMk
import Derived.Test.YtnlhahlegedlaaaI64
namespace Go.Proofs.Ytnlhahlegedlaaa
set_option linter.unusedSimpArgs false
set_option linter.unusedVariables false
open Go.RowKit

theorem plain_all {w : World} {s : Sh} {enc : s.T → Value} (hr : ∀ cs d, Rep w s cs d ↔ cs = [enc d]) : ∀ (xs : List s.T), All2 (Rep w s) (xs.map fun x => [enc x]) xs
  | [] => .nil
  | x :: xs => .cons ((hr _ _).2 rfl) (plain_all hr xs)
theorem all_plain {w : World} {s : Sh} {enc : s.T → Value} (hr : ∀ cs d, Rep w s cs d ↔ cs = [enc d]) {css : List (List Value)} {xs : List s.T} (h : All2 (Rep w s) css xs) : css = xs.map fun x => [enc x] := by
  induction h with
  | nil => rfl
  | cons h _ ih => rw [(hr _ _).1 h, ih]; rfl
theorem flat_one {A : Type} (f : A → Value) : ∀ (xs : List A), (xs.map fun x => [f x]).flatten = xs.map f
  | [] => rfl
  | x :: xs => by simp [flat_one f xs]
theorem rep_plain {w : World} {s : Sh} {enc : s.T → Value} (hr : ∀ cs d, Rep w s cs d ↔ cs = [enc d]) {cs : List Value} {xs : List s.T} : Rep w (.sl s) cs xs ↔ ∃ p c, cs = [.slice p xs.length c] ∧ Cs w p (xs.map enc) ∧ xs.length ≤ c ∧ c ≤ maxLen := by
  constructor
  · rintro ⟨p, c, css, h1, h2, h3, h4, h5⟩
    rw [all_plain hr h5, flat_one] at h2
    exact ⟨p, c, h1, h2, h3, h4⟩
  · rintro ⟨p, c, h1, h2, h3, h4⟩
    exact ⟨p, c, _, h1, by rw [flat_one]; exact h2, h3, h4, plain_all hr xs⟩
theorem nils_flat {A : Type} : ∀ (l : List A), (l.map fun _ => ([] : List Nat)).flatten = []
  | [] => rfl
  | v :: vs => by simp [nils_flat vs]
theorem own_plain {w : World} {s : Sh} {enc : s.T → Value} (hr : ∀ cs d bs, Own w s cs d bs ↔ cs = [enc d] ∧ bs = []) {cs : List Value} {xs : List s.T} {bs : List Nat} : Own w (.sl s) cs xs bs ↔ ∃ p c, cs = [.slice p xs.length c] ∧ OwnRow w p xs.length c (xs.map enc) ∧ xs.length ≤ c ∧ c ≤ maxLen ∧ bs = blocksOf p := by
  rw [own_sl]
  constructor
  · rintro ⟨p, c, css, bss, h1, h2, h3, h4, ⟨h5, h6, h7⟩, h8⟩
    have hb : bss.flatten = [] := by
      rw [List.flatten_eq_nil_iff]
      intro b hb
      obtain ⟨i, hi, rfl⟩ := List.mem_iff_getElem.1 hb
      exact ((hr _ _ _).1 (h7 i css[i] bss[i] xs[i] (by simp) (by simp) (by simp))).2
    have hc : css = xs.map fun x => [enc x] := by
      apply List.ext_getElem (by simp [h5])
      intro i g1 g2
      rw [List.getElem_map]
      exact ((hr _ _ _).1 (h7 i css[i] bss[i] xs[i] (by simp) (by simp) (by simp))).1
    rw [hc, flat_one] at h2
    exact ⟨p, c, h1, h2, h3, h4, by rw [h8, hb, List.append_nil]⟩
  · rintro ⟨p, c, h1, h2, h3, h4, h5⟩
    refine ⟨p, c, xs.map fun x => [enc x], xs.map fun _ => [], h1, by rw [flat_one]; exact h2, h3, h4, ⟨by simp, by simp, fun i cs bs d g1 g2 g3 => ?_⟩, by rw [nils_flat, List.append_nil]; exact h5⟩
    rw [List.getElem?_map, g3] at g1 g2
    simp at g1 g2
    exact (hr _ _ _).2 ⟨g1.symm, g2⟩
theorem rep_ints {w : World} {cs : List Value} {xs : List Int} : Rep w (.sl .int) cs xs ↔ ∃ p c, cs = [.slice p xs.length c] ∧ Cs w p (xs.map (Value.int .i64)) ∧ xs.length ≤ c ∧ c ≤ maxLen := rep_plain (s := .int) (fun _ _ => Iff.rfl)
theorem own_ints {w : World} {cs : List Value} {xs : List Int} {bs : List Nat} : Own w (.sl .int) cs xs bs ↔ ∃ p c, cs = [.slice p xs.length c] ∧ OwnRow w p xs.length c (xs.map (Value.int .i64)) ∧ xs.length ≤ c ∧ c ≤ maxLen ∧ bs = blocksOf p := own_plain (s := .int) (fun _ _ _ => Iff.rfl)
theorem rep_strs {w : World} {cs : List Value} {xs : List ByteArray} : Rep w (.sl .str) cs xs ↔ ∃ p c, cs = [.slice p xs.length c] ∧ Cs w p (xs.map Value.string) ∧ xs.length ≤ c ∧ c ≤ maxLen := rep_plain (s := .str) (fun _ _ => Iff.rfl)
theorem own_strs {w : World} {cs : List Value} {xs : List ByteArray} {bs : List Nat} : Own w (.sl .str) cs xs bs ↔ ∃ p c, cs = [.slice p xs.length c] ∧ OwnRow w p xs.length c (xs.map Value.string) ∧ xs.length ≤ c ∧ c ≤ maxLen ∧ bs = blocksOf p := own_plain (s := .str) (fun _ _ _ => Iff.rfl)

theorem tot_ints (xs : List Int) : tot (.sl .int) xs = xs.length := by
  have : ∀ l : List Int, (l.map (tot .int)).sum = 0 := fun l => by induction l with | nil => rfl | cons x l ih => simpa [tot] using ih
  rw [tot_sl, this]; rfl
theorem carry_int (l : List Int) : ∀ k, carry (mkE .int) l k = (marks k l.length, k + l.length) := by
  induction l with
  | nil => intro k; simp [carry, marks]
  | cons x l ih =>
    intro k
    rw [carry_cons]
    show (k :: (carry (mkE .int) l (k + 1)).1, (carry (mkE .int) l (k + 1)).2) = _
    rw [ih, List.length_cons]
    refine Prod.ext ?_ (by simp; omega)
    simp only [marks, List.range_succ_eq_map, List.map_cons, List.map_map]
    congr 1
    · simp
    · apply List.map_congr_left; intro i _; simp; omega

theorem eqInt64S_ok : EqOk 18 (.sl .int) := by
  intro cs cs' xs w hu hv hn
  rw [tot_ints] at hn
  obtain ⟨p, c, rfl, h2, h4, h5⟩ := rep_ints.1 hu
  obtain ⟨q, d, rfl, g2, g4, g5⟩ := rep_ints.1 hv
  refine (eqInt64S_any p q c d _ _ xs xs w rfl rfl (by omega) h2 g2).mono ?_
  rintro e w' ⟨rfl, he⟩
  exact ⟨by simp, he⟩
set_option maxRecDepth 100000 in
set_option maxHeartbeats 1000000 in
theorem markInt64S_own (p : Option Addr) (n c : Nat) (k : Int) (xs : List Int) (w : World) (hx : xs.length = n) (hn : n ≤ 1073741824) (hk0 : 0 ≤ k) (hk : k ≤ 4611686018427387904) (hown : OwnRow w p n c (xs.map (Value.int .i64))) :
    Calls Try.prog 21 #[.slice p n c, .int .i64 k] w fun e w' => e = .returned (.int .i64 (k + n)) ∧ OwnRow w' p n c ((marks k n).map (Value.int .i64)) ∧ Chg (fun b => b ∈ blocksOf p) w w' := by
  have Hx := hid hx
  clear hx
  go_enter Try.func21, Try.ntmps21
  go_wp2
  go_loopw [1, 5] (fun kv iv wr => ∃ i : Nat, i ≤ n ∧ iv = .int .i64 i ∧ kv = .int .i64 (k + i) ∧ OwnRow wr p n c ((markTo k xs i).map (Value.int .i64)) ∧ Chg (fun b => b ∈ blocksOf p) w wr) (fun _ iv _ => n - (intOf iv).toNat)
  case atStart => exact ⟨0, by omega, rfl, by go_num, by simpa [markTo, marks] using hown, Chg.refl _ _⟩
  case round =>
    clear hown
    obtain ⟨i, hi, rfl, rfl, hown, hch⟩ := hrel
    by_cases hlt : i < n
    · have hlen : ((markTo k xs i).map (Value.int .i64)).length = n := by rw [List.length_map, length_markTo _ _ _ (by rw [Hx.out]; exact hi)]; exact Hx.out
      go_wp2_with (refine wl_stRow (u := .int .i64 (k + i)) rfl rfl rfl rfl (fun _ => rfl) rfl rfl (fun _ => rfl) rfl hown hlen (by omega) (by omega) ?_; intro w1 own1 g1)
      go_roundw
      case rel => exact ⟨i + 1, by omega, by go_num, by go_num, by rw [← markTo_set k xs i (by rw [Hx.out]; exact hlt), List.map_set]; exact own1, hch.trans g1⟩
      case measure => simp [intOf]; omega
    · obtain rfl : i = n := by omega
      go_wp2
      go_ret
      refine ⟨rfl, ?_, hch⟩
      rw [← Hx.out, ← markTo_all, Hx.out]
      exact hown
theorem markInt64S_ok : MarkOk 21 (.sl .int) := by
  intro cs xs bs k w h _ hk0 hk
  rw [tot_ints] at hk
  obtain ⟨p, c, rfl, h2, h4, h5, rfl⟩ := own_ints.1 h
  refine (markInt64S_own p _ c k xs w rfl (by omega) hk0 (by omega) h2).mono ?_
  rintro e w' ⟨rfl, own, hch⟩
  have hm : mkV (.sl .int) xs k = (marks k xs.length, k + xs.length) := carry_int xs k
  refine ⟨by rw [hm], ?_, hch⟩
  rw [hm]
  exact own_ints.2 ⟨p, c, by rw [length_marks], by rw [length_marks]; exact own, by rw [length_marks]; exact h4, h5, rfl⟩
theorem heldInt64S_ok : HeldOk 22 (.sl .int) := by
  intro cs xs k w h hk0 hk
  rw [tot_ints] at hk
  have hm : mkV (.sl .int) xs k = (marks k xs.length, k + xs.length) := carry_int xs k
  rw [hm] at h
  obtain ⟨p, c, rfl, h2, h4, h5⟩ := rep_ints.1 h
  rw [length_marks]
  unfold Held
  rw [hm]
  refine (heldInt64S_any p _ c k w (by omega) hk0 (by omega) h2).mono ?_
  rintro e w' ⟨rfl, rfl⟩
  exact ⟨rfl, Ext.refl _⟩
end Go.Proofs.Ytnlhahlegedlaaa
