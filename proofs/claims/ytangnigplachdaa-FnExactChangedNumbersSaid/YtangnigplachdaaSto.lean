/- States: which can be stored. -/
import Derived.Test.YtangnigplachdaaKc
import Derived.Test.YtangnigplachdaaKd
import Derived.Test.YtangnigplachdaaSameV
namespace Go.Proofs.Ytangnigplachdaa
set_option linter.unusedSimpArgs false
set_option linter.unusedVariables false
open Go.RowKit

def stoB (l : List shLayer.T) (s : List (List Nat)) (x3 x4 : Int) : Bool :=
  modB l && (decide (s.length ≤ 4) && (inB x3 0 1000 && (inB x4 0 2147483647 && s.all fun x => decide (x.length = (parF l).length))))
theorem layD_le {d : shLayer.T} (h : layD d = true) : d.2.2.2.1.length ≤ 64 ∧ d.2.2.2.2.1.length ≤ 8 := by
  obtain ⟨k, i, o, a, b, u⟩ := d
  unfold layD layB at h
  dsimp only at h ⊢
  simp only [Bool.and_eq_true, inB_true, decide_eq_true_eq] at h
  obtain ⟨h1, h2, h3, _, h5, h6⟩ := h
  have hm := mul_bd h2 h3
  have key : ∀ (k i o : Int) (x y : Nat), 0 ≤ i * o ∧ i * o ≤ 64 → 1 ≤ i ∧ i ≤ 8 → 1 ≤ o ∧ o ≤ 8 → (x : Int) = wCnt k i o → (y : Int) = bCnt k i o → x ≤ 64 ∧ y ≤ 8 := by
    intro k i o x y h1 h2 h3 h4 h5
    unfold wCnt at h4; unfold bCnt at h5
    split at h4 <;> split at h5 <;> (try split at h4) <;> (try split at h5) <;> (try split at h4) <;> (try split at h5) <;> omega
  exact key k i o _ _ hm h2 h3 h5 h6
theorem modGo_allS : ∀ {p : Option Int} {l : List shLayer.T}, modGo p l = true → ∀ d ∈ l, layD d = true
  | _, [], _, d, hd => by simp at hd
  | p, x :: l, h, d, hd => by
    simp only [modGo, Bool.and_eq_true] at h
    rcases List.mem_cons.1 hd with rfl | hd
    · exact h.1
    · exact modGo_allS h.2.2 d hd
theorem parF_small : ∀ {l : List shLayer.T}, (∀ d ∈ l, layD d = true) → (parF l).length ≤ 72 * l.length
  | [], _ => by simp [parF]
  | d :: l, h => by
    have h1 := layD_le (h d (by simp))
    have h2 := parF_small (l := l) fun x hx => h x (by simp [hx])
    have : parF (d :: l) = ((d.2.2.2.1 : List Nat) ++ d.2.2.2.2.1) ++ parF l := by simp [parF]
    rw [this, List.length_append, List.length_append, List.length_cons]
    omega
theorem modB_par {l : List shLayer.T} (h : modB l = true) : (parF l).length ≤ 432 := by
  unfold modB at h
  simp only [Bool.and_eq_true, decide_eq_true_eq] at h
  have := parF_small (modGo_allS h.2.2)
  omega

theorem getD_len {s : List (List Nat)} {i : Nat} (h : i < s.length) : s.getD i [] = s[i] := by simp [h]
theorem all_len {s : List (List Nat)} {N : Nat} (h : ∀ j, j < s.length → (s.getD j []).length = N) : (s.all fun x => decide (x.length = N)) = true := by
  rw [List.all_eq_true]
  intro x hx
  obtain ⟨j, hj, rfl⟩ := List.mem_iff_getElem.1 hx
  have := h j hj
  rw [getD_len hj] at this
  simpa using this
theorem not_all_len {s : List (List Nat)} {N j : Nat} (hj : j < s.length) (h : ¬ (s.getD j []).length = N) : (s.all fun x => decide (x.length = N)) = false := by
  rw [getD_len hj] at h
  rw [Bool.eq_false_iff]
  intro h2
  rw [List.all_eq_true] at h2
  exact h (by simpa using h2 s[j] (List.getElem_mem hj))

set_option maxRecDepth 100000 in
set_option maxHeartbeats 4000000 in
theorem IsStorable_any (p0 p1 : Option Addr) (n0 c0 n1 c1 : Nat) (x3 x4 : Int) (ub : Nat) (css : List (List Value)) (us : List Value) (l : List shLayer.T) (s : List (List Nat)) (w : World) (L1 : Lays w p0 n0 css l) (S1 : Slts w p1 n1 us s) :
    Calls Try.prog 167 #[.agg #[.slice p0 n0 c0, .slice p1 n1 c1, .int .i64 x3, .int .i64 x4, .float .f32 ub]] w (RetB w (stoB l s x3 x4)) := by
  have Le0 := L1.le
  have Le1 := S1.le
  have Cm := hid (fun W (h : Ext w W) => ValidModel_any p0 n0 c0 l css W L1.len L1.le (L1.cs.ext h) (L1.ext h).all L1.size L1.cnt)
  have Cp := hid (fun W (h : Ext w W) ht => params_any p0 n0 c0 l css W L1.len L1.le (L1.cs.ext h) (L1.ext h).all L1.size L1.cnt ht)
  have hs := S1.len
  have hb0 := @modB_par l
  unfold maxLen at Le0 Le1
  generalize hR : stoB l s x3 x4 = R
  unfold stoB at hR
  rw [hs] at hR
  generalize modB l = m at *
  have E0 := Ext.alloc w (.cells #[.slice p0 n0 c0, .slice p1 n1 c1, .int .i64 x3, .int .i64 x4, .float .f32 ub] 113)
  cases m
  · rw [Bool.false_and] at hR
    subst hR
    clear hb0 hs
    go_enter Try.func167, Try.ntmps167
    go_wp2_with fail
    refine (Cm.out _ E0).mono ?_
    rintro e w1 ⟨rfl, e1⟩
    have x1 := e1.cellOf (b := w.heap.size) (by simp)
    go_wp2
    go_ret
    exact ⟨rfl, E0.trans e1⟩
  rw [Bool.true_and] at hR
  by_cases h2 : n1 ≤ 4
  rotate_left 1
  · rw [decide_eq_false h2, Bool.false_and] at hR
    subst hR
    clear hb0 hs
    go_enter Try.func167, Try.ntmps167
    go_wp2_with fail
    refine (Cm.out _ E0).mono ?_
    rintro e w1 ⟨rfl, e1⟩
    have x1 := e1.cellOf (b := w.heap.size) (by simp)
    go_wp2
    go_ret
    exact ⟨rfl, E0.trans e1⟩
  rw [decide_eq_true h2, Bool.true_and] at hR
  cases k3 : inB x3 0 1000
  · have K3 := hid k3
    rw [k3, Bool.false_and] at hR
    subst hR
    clear hb0 hs k3
    go_enter Try.func167, Try.ntmps167
    go_wp2_with fail
    refine (Cm.out _ E0).mono ?_
    rintro e w1 ⟨rfl, e1⟩
    have x1 := e1.cellOf (b := w.heap.size) (by simp)
    go_wp2_with fail
    refine (within_any _ _ _ _).mono ?_
    rintro e w2 ⟨rfl, rfl⟩
    rw [K3.out]
    go_wp2
    go_ret
    exact ⟨rfl, E0.trans e1⟩
  rw [k3, Bool.true_and] at hR
  have K3 := hid k3
  clear k3
  cases k4 : inB x4 0 2147483647
  · have K4 := hid k4
    rw [k4, Bool.false_and] at hR
    subst hR
    clear hb0 hs k4
    go_enter Try.func167, Try.ntmps167
    go_wp2_with fail
    refine (Cm.out _ E0).mono ?_
    rintro e w1 ⟨rfl, e1⟩
    have x1 := e1.cellOf (b := w.heap.size) (by simp)
    go_wp2_with fail
    refine (within_any _ _ _ _).mono ?_
    rintro e w2 ⟨rfl, rfl⟩
    rw [K3.out]
    go_wp2_with fail
    refine (isSeed_any _ _).mono ?_
    rintro e w2 ⟨rfl, rfl⟩
    rw [K4.out]
    go_wp2
    go_ret
    exact ⟨rfl, E0.trans e1⟩
  rw [k4, Bool.true_and] at hR
  have K4 := hid k4
  clear k4
  have hpl := hb0 rfl
  have Cq := hid (fun W (h : Ext w W) => Cp.out W h (Nat.le_trans hpl (by decide)))
  clear Cp
  have HR := hid hR
  have HS := hid hs
  clear hb0 hR hs
  generalize hPF : parF l = P at *
  generalize hPN : P.length = N at *
  go_enter Try.func167, Try.ntmps167
  go_wp2_with fail
  refine (Cm.out _ E0).mono ?_
  rintro e w1 ⟨rfl, e1⟩
  have x1 := e1.cellOf (b := w.heap.size) (by simp)
  go_wp2_with fail
  refine (within_any _ _ _ _).mono ?_
  rintro e w2 ⟨rfl, rfl⟩
  rw [K3.out]
  go_wp2_with fail
  refine (isSeed_any _ _).mono ?_
  rintro e w2 ⟨rfl, rfl⟩
  rw [K4.out]
  go_wp2_with fail
  refine (Cq.out _ (E0.trans e1)).mono ?_
  rintro e w2 ⟨q, cq, vs, rfl, _, _, e2⟩
  rw [hPN]
  have y1 := e1.size
  have x2 := e2.cellOf (b := w.heap.size) (by simp at y1; omega)
  have he2 := (E0.trans e1).trans e2
  go_wp2
  go_loopw [35] (fun iv wr => ∃ i : Nat, i ≤ n1 ∧ iv = .int .i64 i ∧ Hid (∀ j, j < i → (s.getD j []).length = N) ∧ Ext w wr) (fun iv _ => n1 - (intOf iv).toNat)
  case atStart => exact ⟨0, by omega, rfl, hid (fun j hj => absurd hj (Nat.not_lt_zero j)), he2⟩
  case round =>
    obtain ⟨i, hi, rfl, Hall, he⟩ := hrel
    by_cases hlt : i < n1
    · obtain ⟨pu, cu, eu, fu⟩ := S1.at' i hlt
      have ku := S1.cs.ext he
      have Hu := hid eu
      have Hv := hid S1.cnt
      obtain ⟨_, _, _, hfl, _⟩ := fu
      unfold maxLen at hfl
      clear eu
      generalize hX : (s.getD i []).length = X at *
      by_cases hx : X = N
      · have hq := bne_f (show (X : Int) = N by omega)
        have Hx := hid (hX.trans hx)
        go_wp2_with ((with_reducible show wpList _ _ _ (Oper.mk _ (Op.indexAddr _ _ _) _ _ _ _ :: Oper.mk _ (Op.load _ _) _ _ _ _ :: _) _ _); refine wl_idxload rfl rfl rfl rfl (fun _ => rfl) rfl rfl ku Hv.out (by omega) (by omega) ?_; intro u hu; rw [Int.toNat_natCast, Hu.out] at hu; cases hu)
        go_roundw
        case rel => exact ⟨i + 1, by omega, by go_num, hid fun j hj => (if hji : j = i then hji ▸ Hx.out else Hall.out j (by omega)), he⟩
        case measure => simp [intOf]; omega
      · have hq := bne_t (show ¬ (X : Int) = N by omega)
        have hr2 : R = false := by
          rw [← HR.out]
          exact not_all_len (by rw [HS.out]; exact hlt) (by rw [hX]; exact hx)
        subst hr2
        go_wp2_with ((with_reducible show wpList _ _ _ (Oper.mk _ (Op.indexAddr _ _ _) _ _ _ _ :: Oper.mk _ (Op.load _ _) _ _ _ _ :: _) _ _); refine wl_idxload rfl rfl rfl rfl (fun _ => rfl) rfl rfl ku Hv.out (by omega) (by omega) ?_; intro u hu; rw [Int.toNat_natCast, Hu.out] at hu; cases hu)
        go_ret
        exact ⟨rfl, he⟩
    · obtain rfl : i = n1 := by omega
      have hr2 : R = true := by
        rw [← HR.out]
        exact all_len (fun j hj => Hall.out j (by rw [HS.out] at hj; exact hj))
      subst hr2
      go_wp2
      go_ret
      exact ⟨rfl, he⟩
end Go.Proofs.Ytangnigplachdaa
