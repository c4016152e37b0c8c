/- Plans: what their steps make of a row. -/
import Derived.Test.YtangnigplachdaaKe
import Derived.Test.YtangnigplachdaaPla4
namespace Go.Proofs.Ytangnigplachdaa
set_option linter.unusedSimpArgs false
set_option linter.unusedVariables false
open Go.RowKit

theorem product_comm (x y : Ieee.Datum) : x.product y = y.product x := by
  cases x <;> cases y <;> simp [Ieee.Datum.product, Nat.mul_comm, Int.add_comm, Bool.xor_comm]
theorem fmul_comm (k : FloatKind) (x y : Nat) : fop .mul k x y = fop .mul k y x := by
  simp only [fop, floatBits, Ieee.Format.mul, product_comm]
/-- The layer of a step; what is done behind it to one number; what a step makes of a row. -/
def stpL (d : shPlanStep.T) : shLayer.T := (d.1, d.2.1, d.2.2.1, d.2.2.2.1, d.2.2.2.2.1, ())
def aftF (ss : List Nat) (rl : Bool) (i x : Nat) : Nat := if rl then reluF x else if ss.length = 0 then x else fop .mul .f32 x (ss.getD i 0)
def stepF (d : shPlanStep.T) (xs : List Nat) : List Nat := tab (layF (stpL d) xs).length fun i => aftF d.2.2.2.2.2.1 d.2.2.2.2.2.2.1 i ((layF (stpL d) xs).getD i 0)
theorem tab_self (xs : List Nat) : tab xs.length (fun i => xs.getD i 0) = xs := by
  apply List.ext_getElem?
  intro j
  unfold tab
  by_cases hj : j < xs.length
  · simp [hj]
  · simp [show xs.length ≤ j by omega]
theorem stepF_bare {d : shPlanStep.T} (h1 : (d.2.2.2.2.2.1 : List Nat).length = 0) (h2 : d.2.2.2.2.2.2.1 = false) (xs : List Nat) : stepF d xs = layF (stpL d) xs := by
  have e : (fun i => aftF d.2.2.2.2.2.1 d.2.2.2.2.2.2.1 i ((layF (stpL d) xs).getD i 0)) = fun i => (layF (stpL d) xs).getD i 0 := by
    funext i
    unfold aftF
    rw [if_neg (show ¬ (d.2.2.2.2.2.2.1 : Bool) = true by rw [h2]; simp), if_pos h1]
  unfold stepF
  rw [e, tab_self]
theorem stp_of {d : shPlanStep.T} (h : stpD d = true) : layD (stpL d) = true ∧ (d.1 ≠ 0 → (d.2.2.2.2.2.1 : List Nat).length = 0 ∧ d.2.2.2.2.2.2.1 = false) ∧ (d.1 = 0 → (d.2.2.2.2.2.1 : List Nat).length = 0 ∨ ((d.2.2.2.2.2.1 : List Nat).length : Int) = d.2.2.1 ∧ d.2.2.2.2.2.2.1 = false) := by
  unfold stpD stpB at h
  rw [Bool.and_eq_true] at h
  refine ⟨h.1, fun hk => ?_, fun hk => ?_⟩
  · have h2 := h.2
    rw [if_neg hk] at h2
    simpa using h2
  · have h2 := h.2
    rw [if_pos hk] at h2
    simpa using h2
theorem stepF_len {d : shPlanStep.T} (h : stpD d = true) {xs : List Nat} (hx : (xs.length : Int) = d.2.1) : ((stepF d xs).length : Int) = d.2.2.1 := by
  unfold stepF
  rw [tab_len]
  exact layF_len (d := stpL d) (stp_of h).1 hx
def curP (l : List shPlanStep.T) (x : List Nat) (i : Nat) : List Nat := (l.take i).foldl (fun y d => stepF d y) x
theorem curP_zero (l : List shPlanStep.T) (x : List Nat) : curP l x 0 = x := rfl
theorem curP_succ {l : List shPlanStep.T} (x : List Nat) {i : Nat} (h : i < l.length) : curP l x (i + 1) = stepF l[i] (curP l x i) := by
  unfold curP
  rw [List.take_add_one, List.getElem?_eq_getElem h, List.foldl_append]; rfl
def inP (l : List shPlanStep.T) : Int := (l[0]?.map fun d => d.2.1).getD 0
/-- Whether a plan takes so many numbers. -/
def tkB (l : List shPlanStep.T) (n : Int) : Bool := if l.length = 0 then decide (n ≤ 8) else decide (n = inP l)
theorem plaGo_al {l : List shPlanStep.T} : ∀ {i : Nat} {p : Option Int}, plaGo p l = true → ∀ (h : i < l.length), stpD l[i] = true ∧ ∀ (h' : i + 1 < l.length), l[i + 1].2.1 = l[i].2.2.1 := by
  induction l with
  | nil => intro i p _ h; simp at h
  | cons d t ih =>
    intro i p hm h
    simp only [plaGo, Bool.and_eq_true] at hm
    obtain ⟨h1, h2, h3⟩ := hm
    cases i with
    | zero =>
      refine ⟨h1, fun h' => ?_⟩
      cases t with
      | nil => simp at h'
      | cons d2 t2 =>
        simp only [plaGo, Bool.and_eq_true, linkB, decide_eq_true_eq] at h3
        exact h3.2.1
    | succ i =>
      have := ih (i := i) h3 (by simpa using h)
      simpa using this
structure PlaOk (l : List shPlanStep.T) : Prop where
  few : l.length ≤ 6
  stp : ∀ i (h : i < l.length), stpD l[i] = true
  link : ∀ i (h : i + 1 < l.length), l[i + 1].2.1 = (l[i]'(by omega)).2.2.1
theorem plaOk {l : List shPlanStep.T} (h : plaB l = true) : PlaOk l := by
  unfold plaB at h
  simp only [Bool.and_eq_true, decide_eq_true_eq] at h
  obtain ⟨h1, h2⟩ := h
  exact ⟨h2, fun i hi => (plaGo_al h1 hi).1, fun i hi => (plaGo_al h1 (by omega)).2 hi⟩
theorem curP_len {l : List shPlanStep.T} (h : PlaOk l) {x : List Nat} (hx : tkB l x.length = true) : ∀ i (hi : i < l.length), ((curP l x i).length : Int) = l[i].2.1
  | 0, hi => by
    unfold tkB at hx
    rw [if_neg (by omega), decide_eq_true_eq] at hx
    rw [curP_zero, hx]; unfold inP; simp [hi]
  | i + 1, hi => by
    rw [curP_succ x (by omega), h.link i hi]
    exact stepF_len (h.stp i (by omega)) (curP_len h hx i (by omega))
theorem stp_in {d : shPlanStep.T} (h : stpD d = true) : (d.2.1.toNat : Int) = d.2.1 ∧ (d.2.2.1.toNat : Int) = d.2.2.1 ∧ d.2.1.toNat ≤ 8 ∧ 1 ≤ d.2.1.toNat ∧ d.2.2.1.toNat ≤ 8 ∧ 1 ≤ d.2.2.1.toNat := layD_int (stp_of h).1
theorem curP_le {l : List shPlanStep.T} (h : PlaOk l) {x : List Nat} (hx : tkB l x.length = true) : ∀ i, i ≤ l.length → (curP l x i).length ≤ 8
  | 0, hi => by
    rw [curP_zero]
    by_cases h0 : l.length = 0
    · unfold tkB at hx
      rw [if_pos h0, decide_eq_true_eq] at hx
      omega
    · have h1 := curP_len h hx 0 (by omega)
      have h2 := stp_in (h.stp 0 (by omega))
      rw [curP_zero] at h1
      omega
  | i + 1, hi => by
    have h1 : ((curP l x (i + 1)).length : Int) = (l[i]'(by omega)).2.2.1 := by
      rw [curP_succ x (by omega)]
      exact stepF_len (h.stp i (by omega)) (curP_len h hx i (by omega))
    have h2 := stp_in (h.stp i (by omega))
    omega
/-- What comes out of a plan that takes so many numbers. -/
def outP (l : List shPlanStep.T) (n : Int) : Int := if l.length = 0 then n else (l[l.length - 1]?.map fun d => d.2.2.1).getD 0
theorem curP_out {l : List shPlanStep.T} (h : PlaOk l) {x : List Nat} (hx : tkB l x.length = true) : ((curP l x l.length).length : Int) = outP l x.length := by
  unfold outP
  by_cases h0 : l.length = 0
  · rw [if_pos h0, h0, curP_zero]
  · rw [if_neg h0]
    obtain ⟨n, hn⟩ : ∃ n, l.length = n + 1 := ⟨l.length - 1, by omega⟩
    have h1 : ((curP l x (n + 1)).length : Int) = (l[n]'(by omega)).2.2.1 := by
      rw [curP_succ x (by omega)]
      exact stepF_len (h.stp n (by omega)) (curP_len h hx n (by omega))
    rw [hn, h1]
    simp [show n < l.length by omega]
/-- A dense step's numbers. -/
theorem stepF_dense {d : shPlanStep.T} (hd : d.1 = 0) (h : stpD d = true) (xs : List Nat) : stepF d xs = tab d.2.2.1.toNat fun i => aftF d.2.2.2.2.2.1 d.2.2.2.2.2.2.1 i (fop .add .f32 (dotG (fun t => (d.2.2.2.1 : List Nat).getD (i * d.2.1.toNat + t) 0) (fun t => xs.getD t 0) d.2.1.toNat) ((d.2.2.2.2.1 : List Nat).getD i 0)) := by
  have e : layF (stpL d) xs = tab d.2.2.1.toNat (rO 0 d.2.1.toNat d.2.2.2.1 d.2.2.2.2.1 xs) := by
    show runF d.1 d.2.1.toNat d.2.2.1.toNat d.2.2.2.1 d.2.2.2.2.1 xs = _
    rw [hd]; rfl
  unfold stepF
  rw [e, tab_len]
  unfold tab
  apply List.map_congr_left
  intro i hi
  have hi : i < d.2.2.1.toNat := by simpa using hi
  have := tab_get (rO 0 d.2.1.toNat d.2.2.2.1 d.2.2.2.2.1 xs) hi
  unfold tab at this
  rw [this]
  rfl
end Go.Proofs.Ytangnigplachdaa
