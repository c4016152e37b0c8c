/- FnConfusion: counts and their sums, the plain part; small functions. -/
import Derived.Test.YtlimabbeaimdgaaConf
import Derived.Test.YtlimabbeaimdgaaCLab
import Derived.Test.YtlimabbeaimdgaaGrC
import Derived.Test.YtlimabbeaimdgaaDr7
import Derived.Test.YtlimabbeaimdgaaStp
namespace Go.Proofs.Ytlimabbeaimdgaa
set_option linter.unusedSimpArgs false
set_option linter.unusedVariables false
open Go.RowKit

def cellN (l : List Int) (g : Nat → Nat) (a b : Nat) : Nat → Int
  | 0 => 0
  | r + 1 => cellN l g a b r + if l.getD r 0 = (a : Int) ∧ ((g r : Nat) : Int) = (b : Int) then 1 else 0
theorem cellN_bd (l : List Int) (g : Nat → Nat) (a b : Nat) : ∀ r, 0 ≤ cellN l g a b r ∧ cellN l g a b r ≤ r
  | 0 => by simp [cellN]
  | r + 1 => by have := cellN_bd l g a b r; rw [cellN]; split <;> omega
theorem incT_get {T : List (List Int)} {O A G a b : Nat} (h1 : T.length = O) (h2 : ∀ x ∈ T, x.length = O) (hA : A < O) (hG : G < O) : ((incT T A G).getD a []).getD b 0 = (T.getD a []).getD b 0 + if A = a ∧ G = b then 1 else 0 := by
  have hx : (T.getD A []).length = O := by
    rw [List.getD_eq_getElem?_getD, List.getElem?_eq_getElem (by omega)]
    exact h2 _ (by simp)
  unfold incT
  by_cases hn : A = a
  · subst hn
    have e1 : (T.set A ((T.getD A []).set G ((T.getD A []).getD G 0 + 1))).getD A [] = (T.getD A []).set G ((T.getD A []).getD G 0 + 1) := by
      rw [List.getD_eq_getElem?_getD, List.getElem?_set_self (by omega), Option.getD_some]
    rw [e1]
    generalize T.getD A [] = R at *
    by_cases hb2 : G = b
    · subst hb2
      rw [List.getD_eq_getElem?_getD, List.getElem?_set_self (by omega), if_pos ⟨rfl, rfl⟩]; rfl
    · rw [List.getD_eq_getElem?_getD, List.getElem?_set_ne hb2, if_neg (fun h => hb2 h.2), ← List.getD_eq_getElem?_getD]; omega
  · have e1 : (T.set A ((T.getD A []).set G ((T.getD A []).getD G 0 + 1))).getD a [] = T.getD a [] := by
      rw [List.getD_eq_getElem?_getD, List.getElem?_set_ne hn, ← List.getD_eq_getElem?_getD]
    rw [e1, if_neg (fun h => hn h.1)]; omega
theorem tab_cell {O : Nat} {l : List Int} {g : Nat → Nat} (a b : Nat) : ∀ r, (∀ i, i < r → 0 ≤ l.getD i 0 ∧ l.getD i 0 < O) → (∀ i, i < r → g i < O) → ((tabF O l g r).getD a []).getD b 0 = cellN l g a b r
  | 0, _, _ => by
    simp only [tabF, cellN, List.getD_eq_getElem?_getD, List.getElem?_replicate]
    split
    · simp only [Option.getD_some, List.getElem?_replicate]
      split <;> simp
    · simp
  | r + 1, h1, h2 => by
    have ih := tab_cell a b r (fun i hi => h1 i (by omega)) (fun i hi => h2 i (by omega))
    obtain ⟨k1, k2⟩ := tabF_len O l g r
    obtain ⟨h3, h4⟩ := h1 r (by omega)
    have h5 := h2 r (by omega)
    rw [tabF, incT_get k1 k2 (by omega) h5, ih, cellN]
    congr 1
    by_cases hq : l.getD r 0 = (a : Int) ∧ ((g r : Nat) : Int) = (b : Int)
    · rw [if_pos hq, if_pos ⟨by omega, by omega⟩]
    · rw [if_neg hq, if_neg (fun h => hq ⟨by omega, by omega⟩)]
/-- The sum of the first n. -/
def sumTo (f : Nat → Int) : Nat → Int
  | 0 => 0
  | n + 1 => sumTo f n + f n
theorem sumTo_congr {f h : Nat → Int} : ∀ {n : Nat}, (∀ i, i < n → f i = h i) → sumTo f n = sumTo h n
  | 0, _ => rfl
  | n + 1, k => by rw [sumTo, sumTo, sumTo_congr (fun i hi => k i (by omega)), k n (by omega)]
theorem sumTo_add (f h : Nat → Int) : ∀ n, sumTo (fun i => f i + h i) n = sumTo f n + sumTo h n
  | 0 => rfl
  | n + 1 => by rw [sumTo, sumTo, sumTo, sumTo_add f h n]; omega
theorem sumTo_bd {f : Nat → Int} {m : Int} (h : ∀ i, 0 ≤ f i ∧ f i ≤ m) : ∀ n : Nat, 0 ≤ sumTo f n ∧ sumTo f n ≤ n * m
  | 0 => by simp [sumTo]
  | n + 1 => by
    have ih := sumTo_bd h n
    have := h n
    have h2 : ((n + 1 : Nat) : Int) * m = n * m + m := by rw [Int.natCast_add, Int.add_mul]; simp
    rw [sumTo]; omega
theorem sumTo_one (a : Nat) (c : Int) : ∀ n : Nat, sumTo (fun i => if (a : Int) = (i : Int) then c else 0) n = if a < n then c else 0
  | 0 => rfl
  | n + 1 => by
    rw [sumTo, sumTo_one a c n]
    by_cases h1 : a < n
    · rw [if_pos h1, if_neg (by omega), if_pos (by omega)]; omega
    · by_cases h2 : a = n
      · rw [if_neg h1, if_pos (by omega), if_pos (by omega)]; omega
      · rw [if_neg h1, if_neg (by omega), if_neg (by omega)]; omega
theorem sumTo_zero : ∀ n, sumTo (fun _ => 0) n = 0
  | 0 => rfl
  | n + 1 => by rw [sumTo, sumTo_zero n]; rfl
theorem sum_cells {O : Nat} {l : List Int} {g : Nat → Nat} : ∀ r : Nat, (∀ i, i < r → 0 ≤ l.getD i 0 ∧ l.getD i 0 < O) → (∀ i, i < r → g i < O) → sumTo (fun a => sumTo (fun b => cellN l g a b r) O) O = r
  | 0, _, _ => by
    have : (fun a => sumTo (fun b => cellN l g a b 0) O) = fun _ => 0 := by funext a; exact sumTo_zero O
    rw [this, sumTo_zero]; rfl
  | r + 1, h1, h2 => by
    have ih := sum_cells r (fun i hi => h1 i (by omega)) (fun i hi => h2 i (by omega))
    obtain ⟨h3, h4⟩ := h1 r (by omega)
    have h5 := h2 r (by omega)
    obtain ⟨A, hA⟩ : ∃ A : Nat, l.getD r 0 = A := ⟨(l.getD r 0).toNat, by omega⟩
    have e1 : (fun a => sumTo (fun b => cellN l g a b (r + 1)) O) = fun a => sumTo (fun b => cellN l g a b r) O + if (A : Int) = (a : Int) then 1 else 0 := by
      funext a
      have e2 : (fun b => cellN l g a b (r + 1)) = fun b => cellN l g a b r + (if ((g r : Nat) : Int) = (b : Int) then (if (A : Int) = (a : Int) then 1 else 0) else 0) := by
        funext b
        rw [cellN, hA]
        congr 1
        by_cases q1 : (A : Int) = a <;> by_cases q2 : ((g r : Nat) : Int) = b <;> simp [q1, q2]
      rw [e2, sumTo_add, sumTo_one, if_pos h5]
    rw [e1, sumTo_add, ih, sumTo_one, if_pos (by omega)]
    omega
theorem diag_sum {T : List (List Int)} : ∀ n, diag T n = sumTo (fun a => (T.getD a []).getD a 0) n
  | 0 => rfl
  | n + 1 => by rw [diag, sumTo, diag_sum n]
set_option maxRecDepth 100000 in
set_option maxHeartbeats 1000000 in
theorem r8At_any (p : Option Addr) (n c : Nat) (bs : List Nat) (i N : Nat) (w : World) (hc : Cs w p (u8s bs)) (hl : bs.length = n) (hn : n ≤ 1048576) (hb : ∀ b ∈ bs, b < 256) (hN : N ≤ 100000) :
    Calls Try.prog 33 #[.slice p n c, .int .i64 i, .int .i64 N] w fun e w' => ∃ x : Nat, e = .returned (.int .i64 x) ∧ (1 ≤ N → x < N) ∧ w = w' := by
  have hlen : (u8s bs).length = n := by simp [u8s, hl]
  by_cases h1 : N ≤ 1
  · go_enter Try.func33, Try.ntmps33
    go_wp2
    go_ret
    exact ⟨0, rfl, fun h => by omega, rfl⟩
  · have d3 : ((N : Int) = 0) = False := by simp; omega
    have d4 : ((N : Int) = -1) = False := by first | (simp; done) | (simp; omega)
    by_cases h2 : i < n
    · have hib : i < bs.length := by omega
      have hv : (u8s bs)[i]? = some (.int .u8 ((bs[i] : Nat) : Int)) := by simp [u8s, hib]
      have hb2 := hb bs[i] (by simp)
      generalize bs[i] = b at *
      have wb : IntKind.i64.wrap (b : Int) = (b : Int) := wrap_in _ (by omega) (by omega)
      have Hv := hid hv
      have Hl := hid hlen
      have hni : ¬ n ≤ i := by omega
      clear hv hlen hl hib hb
      go_enter Try.func33, Try.ntmps33
      go_wp2_with ((with_reducible show wpList _ _ _ (Oper.mk _ (Op.indexAddr _ _ _) _ _ _ _ :: Oper.mk _ (Op.load _ _) _ _ _ _ :: _) _ _); refine wl_idxload rfl rfl rfl rfl (fun _ => rfl) rfl rfl hc Hl.out (by omega) (by omega) ?_; intro u hu; rw [Int.toNat_natCast, Hv.out] at hu; cases hu)
      go_ret
      have g1 := Int.emod_nonneg (b : Int) (show (N : Int) ≠ 0 by omega)
      have g2 := Int.emod_lt_of_pos (b : Int) (show (0 : Int) < N by omega)
      exact ⟨((b : Int) % N).toNat, by rw [Int.toNat_of_nonneg g1]; rfl, fun h => by omega, rfl⟩
    · have hni : n ≤ i := by omega
      go_enter Try.func33, Try.ntmps33
      go_wp2
      go_ret
      exact ⟨0, rfl, fun h => by omega, rfl⟩
set_option maxRecDepth 100000 in
set_option maxHeartbeats 4000000 in
theorem R8Tensor_any (p : Option Addr) (n c : Nat) (bs : List Nat) (R C : Nat) (w : World) (hc : Cs w p (u8s bs)) (hl : bs.length = n) (hn : n ≤ 1048576) (hb : ∀ b ∈ bs, b < 256) (hR : R ≤ 16) (hC : C ≤ 16) :
    Calls Try.prog 35 #[.slice p n c, .int .i64 R, .int .i64 C] w (GotT R C w) := by
  obtain ⟨W0, hW0⟩ : ∃ W0, W0 = w.alloc (.cells #[.int .i64 0, .int .i64 0, .slice none 0 0] 57) := ⟨_, rfl⟩
  have E0 : Ext w W0 := by rw [hW0]; exact Ext.alloc _ _
  have b0 : HB W0 w.heap.size #[.int .i64 0, .int .i64 0, .slice none 0 0] 57 := by rw [hW0]; exact HB.new _ _ _
  have z0 := b0.lt
  go_enter Try.func35, Try.ntmps35
  go_wp2_with fail
  rw [← hW0]
  clear hW0
  refine (l00From_any p n c bs W0 (hc.ext E0) hl hn hb).mono ?_
  rintro e w1 ⟨rfl, src, e1⟩
  have hsz := e1.size
  go_wp2_with fail
  refine (l02DrawSized_any W0.heap.size 0 R C w1 src hR hC (by omega)).mono ?_
  rintro e w2 ⟨xs, q, c2, vs, rfl, hx, hxb, ho, hf, _, c3⟩
  have E2 := chg_new (E0.trans e1) c3 (by omega)
  have B1 := (b0.ext e1).chg c3 (fun hh => by omega)
  have n0 := B1.froz 0; have n1 := B1.froz 1; have n2 := B1.froz 2
  have y0 := B1.cell 0 rfl; have y1 := B1.cell 1 rfl; have y2 := B1.cell 2 rfl
  have HX := hid hx
  clear hx
  generalize hRM : R * C = RM at *
  go_wp2
  have Z7 : HB (((w2.setCell ⟨w.heap.size, 0, none⟩ (.int .i64 R)).setCell ⟨w.heap.size, 1, none⟩ (.int .i64 C)).setCell ⟨w.heap.size, 2, none⟩ (.slice q RM c2)) w.heap.size #[.int .i64 R, .int .i64 C, .slice q RM c2] 57 := ((B1.set 0 _).set 1 _).set 2 _
  have C7 : Chg (fun b => b = w.heap.size) w2 (((w2.setCell ⟨w.heap.size, 0, none⟩ (.int .i64 R)).setCell ⟨w.heap.size, 1, none⟩ (.int .i64 C)).setCell ⟨w.heap.size, 2, none⟩ (.slice q RM c2)) := ((chg_cell _ _ 0 _).trans (chg_cell _ _ 1 _)).trans (chg_cell _ _ 2 _)
  clear n0 n1 n2 y0 y1 y2
  generalize (((w2.setCell ⟨w.heap.size, 0, none⟩ (.int .i64 R)).setCell ⟨w.heap.size, 1, none⟩ (.int .i64 C)).setCell ⟨w.heap.size, 2, none⟩ (.slice q RM c2)) = W7 at *
  have y0 := Z7.cell 0 rfl; have y1 := Z7.cell 1 rfl; have y2 := Z7.cell 2 rfl
  refine bodyPost_ret (v := .agg #[.int .i64 R, .int .i64 C, .slice q RM c2]) (by simp [results, Try.results35, go_sem, y0, y1, y2]) rfl ?_
  subst hRM
  exact ⟨xs, q, c2, vs, rfl, HX.out, hxb, own_base (ownsRow_chg ho C7 (fun k hk hs => by have hs : k = _ := hs; have := own_le ho k hk; omega)) (by omega), hf, E2.chg C7 (fun b hb => by have hb : b = _ := hb; omega)⟩
end Go.Proofs.Ytlimabbeaimdgaa
