/- SplitModel. -/
import Derived.Test.YtbdcjhhphkckcaaCpyS
import Derived.Test.YtbdcjhhphkckcaaKf
namespace Go.Proofs.Ytbdcjhhphkckcaa
set_option linter.unusedSimpArgs false
set_option linter.unusedVariables false
open Go.RowKit

theorem small_of {L : List shLayer.T} (h : ModOk L) : Small L := by
  refine ⟨by have := h.few; omega, fun d hd => ?_⟩
  obtain ⟨i, hi, rfl⟩ := List.mem_iff_getElem.1 hd
  have hl := h.lay i hi
  unfold layD layB at hl
  simp only [Bool.and_eq_true, decide_eq_true_eq, inB_true, Bool.or_eq_true] at hl
  obtain ⟨h1, h2, h3, h4, h5, h6⟩ := hl
  have hm := mul_bd h2 h3
  unfold wCnt at h5
  unfold bCnt at h6
  refine ⟨?_, ?_⟩
  · split at h5
    · omega
    · split at h5
      · omega
      · split at h5 <;> omega
  · split at h6
    · omega
    · split at h6
      · omega
      · split at h6 <;> omega
theorem small_take {L : List shLayer.T} (h : Small L) (k : Nat) : Small (L.take k) := ⟨by rw [List.length_take]; have := h.1; omega, fun d hd => h.2 d (List.mem_of_mem_take hd)⟩
theorem small_drop {L : List shLayer.T} (h : Small L) (k : Nat) : Small (L.drop k) := ⟨by rw [List.length_drop]; have := h.1; omega, fun d hd => h.2 d (List.mem_of_mem_drop hd)⟩
theorem lays_sub {w : World} {p : Option Addr} {n c a b : Nat} {css : List (List Value)} {L : List shLayer.T} (h : Lays w p n css L) (hc : n ≤ c) (h1 : a ≤ b) (h2 : b ≤ n) : Lays w (subp p shLayer.sz a c) (b - a) ((css.take b).drop a) ((L.take b).drop a) := by
  refine ⟨?_, ?_, fun x hx => h.size x (List.mem_of_mem_take (List.mem_of_mem_drop hx)), fun x hx => h.one x (List.mem_of_mem_take (List.mem_of_mem_drop hx)), ?_, ?_, fun x hx => h.fit x (List.mem_of_mem_take (List.mem_of_mem_drop hx)), by have := h.le; omega⟩
  · have h3 := h.cs.sub (s := 5) (l := a) (hi := b) (c := c) h1 (by omega)
    have hs : ∀ x ∈ css, x.length = 5 := h.size
    have e1 : css.flatten.take (b * 5) = (css.take b).flatten := by
      have h4 : (css.take b).flatten.length = b * 5 := by
        rw [flat_len' (fun x hx => hs x (List.mem_of_mem_take hx)), List.length_take, h.cnt, Nat.min_eq_left h2]
      conv => lhs; rw [← List.take_append_drop b css, List.flatten_append]
      rw [← h4, List.take_left]
    have e2 : (css.take b).flatten.drop (a * 5) = ((css.take b).drop a).flatten := by
      have h4 : ((css.take b).take a).flatten.length = a * 5 := by
        rw [flat_len' (fun x hx => hs x (List.mem_of_mem_take (List.mem_of_mem_take hx))), List.length_take, List.length_take, h.cnt]
        congr 1; omega
      conv => lhs; rw [← List.take_append_drop a (css.take b), List.flatten_append]
      rw [← h4, List.drop_left]
    rw [e1, e2] at h3
    exact h3
  · have : ∀ {us : List (List Value)} {bs : List shLayer.T}, All2 (Rep w shLayer) us bs → All2 (Rep w shLayer) ((us.take b).drop a) ((bs.take b).drop a) := by
      intro us bs hu
      refine All2.of_get (by rw [List.length_drop, List.length_drop, List.length_take, List.length_take, hu.length]) fun i x y hx hy => ?_
      rw [List.getElem?_drop, List.getElem?_take] at hx hy
      split at hx
      · rename_i hi
        rw [if_pos hi] at hy
        exact hu.toGet _ _ _ hx hy
      · cases hx
    exact this h.all
  · rw [List.length_drop, List.length_take, h.len, Nat.min_eq_left h2]
  · rw [List.length_drop, List.length_take, h.cnt, Nat.min_eq_left h2]
end Go.Proofs.Ytbdcjhhphkckcaa
namespace Go.Proofs.Ytbdcjhhphkckcaa.lSplitModel
open Go.RowKit
def okS (d : shModel.T) (a : Int) : Prop := modB d.1 = true ∧ inB a 1 ((d.1.length : Int) - 1) = true
instance (d : shModel.T) (a : Int) : Decidable (okS d a) := by unfold okS; infer_instance
def res (d : shModel.T) (a : Int) : shModel.T × shModel.T × Bool := if okS d a then ((d.1.take a.toNat, ()), (d.1.drop a.toNat, ()), true) else (([], ()), ([], ()), false)
theorem res_no {d : shModel.T} {a : Int} (h : ¬ okS d a) : res d a = (([], ()), ([], ()), false) := by unfold res; rw [if_neg h]
theorem tot_app {e : Sh} (l m : List e.T) : tot (.sl e) (l ++ m) = tot (.sl e) l + tot (.sl e) m := by
  simp only [tot, List.length_append, List.map_append, List.sum_append]; omega
theorem res_bd (d : shModel.T) (a : Int) (h : tot shModel d ≤ 1048576) (_ : Fit shModel d) (_ : Fit .int a) : tot shModel (res d a).1 ≤ 1048576 := by
  unfold res
  split
  · have h2 : tot shModel d = tot (.sl shLayer) d.1 + 0 := rfl
    have h3 : tot shModel (d.1.take a.toNat, ()) = tot (.sl shLayer) (d.1.take a.toNat) + 0 := rfl
    have h4 := tot_app (e := shLayer) (d.1.take a.toNat) (d.1.drop a.toNat)
    rw [List.take_append_drop] at h4
    show tot shModel (d.1.take a.toNat, ()) ≤ _
    omega
  · simp [tot]
theorem res_bd1 (d : shModel.T) (a : Int) (h : tot shModel d ≤ 1048576) (_ : Fit shModel d) (_ : Fit .int a) : tot shModel (res d a).2.1 ≤ 1048576 := by
  unfold res
  split
  · have h2 : tot shModel d = tot (.sl shLayer) d.1 + 0 := rfl
    have h3 : tot shModel (d.1.drop a.toNat, ()) = tot (.sl shLayer) (d.1.drop a.toNat) + 0 := rfl
    have h4 := tot_app (e := shLayer) (d.1.take a.toNat) (d.1.drop a.toNat)
    rw [List.take_append_drop] at h4
    show tot shModel (d.1.drop a.toNat, ()) ≤ _
    omega
  · simp [tot]
theorem own_mod {w : World} {q : Option Addr} {n k : Nat} {L : List shLayer.T} {bs : List Nat} (h : Own w (.sl shLayer) [.slice q n k] L bs) : Own w shModel [.slice q n k] (L, ()) bs := ⟨[.slice q n k], [], bs, [], rfl, h, ⟨rfl, rfl⟩, by simp⟩
theorem out2_no {w w' : World} {e : Ending} (h : e = .returned (.tuple #[.agg #[.slice none 0 0], .agg #[.slice none 0 0], .bool false])) (hx : Ext w w') : Out2 w shModel shModel (([], ()), ([], ()), false) e w' :=
  ⟨[.slice none 0 0], [], [.slice none 0 0], [], h, own_mod own_nil, own_mod own_nil, by simp, by simp, hx⟩
end Go.Proofs.Ytbdcjhhphkckcaa.lSplitModel
