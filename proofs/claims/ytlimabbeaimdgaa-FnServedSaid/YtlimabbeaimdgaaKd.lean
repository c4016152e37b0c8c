/- A part of the proofs: Par, Rnd, Rnd2, Rnd3, Fwd, Fwd2, Fwd3, Fwd4, Fwd5, Fwd6. -/
import Derived.Test.YtlimabbeaimdgaaKc
import Derived.Test.YtlimabbeaimdgaaKa
import Derived.Test.YtlimabbeaimdgaaKb
import Derived.Laws.FloatBits
/- The parameters of a model: its weights and biases, layer by layer. -/
namespace Go.Proofs.Ytlimabbeaimdgaa
set_option linter.unusedSimpArgs false
set_option linter.unusedVariables false
open Go.RowKit

def parF (l : List shLayer.T) : List Nat := l.flatMap fun d => (d.2.2.2.1 : List Nat) ++ d.2.2.2.2.1
theorem parF_take {l : List shLayer.T} {i : Nat} (h : i < l.length) : parF (l.take (i + 1)) = parF (l.take i) ++ ((l[i].2.2.2.1 : List Nat) ++ l[i].2.2.2.2.1) := by
  unfold parF
  rw [List.take_add_one, List.getElem?_eq_getElem h, List.flatMap_append]
  simp
theorem parF_le (l : List shLayer.T) (i : Nat) : (parF (l.take i)).length ≤ (parF l).length := by
  have : parF l = parF (l.take i) ++ parF (l.drop i) := by
    unfold parF; rw [← List.flatMap_append, List.take_append_drop]
  rw [this, List.length_append]; omega
/-- A list of numbers of one's own. -/
def RetFl (w : World) (xs : List Nat) (e : Ending) (w' : World) : Prop :=
  ∃ q c vs, e = .returned (.slice q xs.length c) ∧ w'.ownsRow w.heap.size 49 1 (.slice q xs.length c) xs.length vs ∧ F32s vs xs ∧ Ext w w'
theorem F32s.app {us vs : List Value} {xs ys : List Nat} (h : F32s us xs) (k : F32s vs ys) : F32s (us ++ vs) (xs ++ ys) := by
  refine ⟨by rw [List.length_append, List.length_append, h.1, k.1], fun i hi => ?_⟩
  by_cases hl : i < xs.length
  · obtain ⟨b, h1, h2⟩ := h.2 i hl
    exact ⟨b, by rw [List.getElem?_append_left (by rw [h.1]; exact hl)]; exact h1, by rw [h2]; simp [List.getD_eq_getElem?_getD, List.getElem?_append_left hl]⟩
  · rw [List.length_append] at hi
    obtain ⟨b, h1, h2⟩ := k.2 (i - xs.length) (by omega)
    exact ⟨b, by rw [List.getElem?_append_right (by rw [h.1]; omega), h.1]; exact h1, by rw [h2]; simp [List.getD_eq_getElem?_getD, List.getElem?_append_right (show xs.length ≤ i by omega)]⟩
theorem F32s.one {us : List Value} {xs : List Nat} (h : F32s us xs) : ∀ u ∈ us, u.oneCell' = true := by
  intro u hu
  obtain ⟨i, hi, rfl⟩ := List.mem_iff_getElem.1 hu
  obtain ⟨b, h1, _⟩ := h.2 i (by rw [← h.1]; exact hi)
  rw [List.getElem?_eq_getElem hi] at h1
  rw [Option.some.inj h1]; rfl
theorem retFl_of {w w' : World} {xs : List Nat} {v : Value} {e : Ending} {vs : List Value} {n : Nat} (hl : xs.length = n) (h : w'.ownsRow w.heap.size 49 1 v n vs) (hf : F32s vs xs) (he : e = .returned v) (hx : Ext w w') : RetFl w xs e w' := by
  subst hl
  obtain ⟨q, c, rfl⟩ : ∃ q c, v = .slice q xs.length c := by
    rcases h.2 with ⟨h1, h2⟩ | ⟨g, cap, cur, h1, _⟩
    · exact ⟨none, 0, by rw [h1, h2]⟩
    · exact ⟨_, _, h1⟩
  exact ⟨q, c, vs, he, h, hf, hx⟩

/-- The cells of a layer with its numbers. -/
theorem lay_nums {w : World} {cs : List Value} {d : shLayer.T} (h : Rep w shLayer cs d) : ∃ pw cw pb cb us vs, cs = [.int .i64 d.1, .int .i64 d.2.1, .int .i64 d.2.2.1, .slice pw d.2.2.2.1.length cw, .slice pb d.2.2.2.2.1.length cb] ∧
    Cs w pw us ∧ F32s us d.2.2.2.1 ∧ d.2.2.2.1.length ≤ cw ∧ Cs w pb vs ∧ F32s vs d.2.2.2.2.1 ∧ d.2.2.2.2.1.length ≤ cb := by
  obtain ⟨a1, a2, a3, a4, a5, au⟩ := d
  obtain ⟨_, _, rfl, rfl, _, _, rfl, rfl, _, _, rfl, rfl, _, _, rfl, h4, _, _, rfl, h5, rfl⟩ := h
  obtain ⟨p4, c4, us, rfl, h1, h2, h3, _⟩ := rep_flts.1 h4
  obtain ⟨p5, c5, vs, rfl, g1, g2, g3, _⟩ := rep_flts.1 h5
  exact ⟨p4, c4, p5, c5, us, vs, rfl, h1, h2, h3, g1, g2, g3⟩

set_option maxRecDepth 100000 in
set_option maxHeartbeats 4000000 in
theorem params_any (p : Option Addr) (n c : Nat) (l : List shLayer.T) (css : List (List Value)) (w : World) (hn : l.length = n) (hm : n ≤ maxLen)
    (a2 : Cs w p css.flatten) (a5 : All2 (Rep w shLayer) css l) (a6 : ∀ c ∈ css, c.length = shLayer.sz) (a7 : css.length = n) (hT : (parF l).length ≤ 1073741824) :
    Calls Try.prog 107 #[.agg #[.slice p n c]] w (RetFl w (parF l)) := by
  unfold maxLen at hm
  have HL := hid hn
  have HP := hid (parF_le l)
  clear hn
  have hstart : ((w.alloc (.cells #[.slice p n c] 33)).alloc (.cells #[] 49)).ownsRow w.heap.size 49 1 (.slice (some ⟨(w.alloc (.cells #[.slice p n c] 33)).heap.size, 0, none⟩) 0 0) 0 [] := World.ownsRow_made (w.alloc (.cells #[.slice p n c] 33)) #[] 0 (by simp) (by decide) rfl
  have e0 := (Ext.alloc w (.cells #[.slice p n c] 33)).trans (Ext.alloc _ (.cells #[] 49))
  simp only [World.size_alloc] at hstart
  go_enter Try.func107, Try.ntmps107
  go_wp2
  go_loopw [3, 10] (fun bv iv wr => ∃ (i : Nat) (vs : List Value), i ≤ n ∧ iv = .int .i64 i ∧ wr.ownsRow w.heap.size 49 1 bv (parF (l.take i)).length vs ∧ Hid (F32s vs (parF (l.take i))) ∧ Ext w wr) (fun _ iv _ => n - (intOf iv).toNat)
  case atStart => exact ⟨0, [], by omega, rfl, by simpa [parF] using hstart, by simp [Hid, parF, F32s.nil], e0⟩
  case round =>
    rename_i bv _
    clear hstart e0
    obtain ⟨i, vs, hi, rfl, own0, HF, he⟩ := hrel
    have hB := he.size
    by_cases hlt : i < n
    · have hil : i < l.length := by rw [HL.out]; exact hlt
      obtain ⟨ci, hci, ri⟩ := a5.get i l[i] (by simp)
      obtain ⟨pw, cw, pb, cb, us, ws, rfl, k1, k2, k3, k4, k5, k6⟩ := lay_nums ri
      have hpl := HP.out (i + 1)
      have hpt := parF_take hil
      rw [hpt, List.length_append, List.length_append] at hpl
      have hs1 := a2.some_of a6 (by decide) (show 0 < css.length by omega)
      have hp := a2.ext he
      generalize hx : parF (l.take i) = xs at *
      generalize l[i] = d at *
      have Hpt := hid hpt
      have u1 := k2.1
      have u2 := k5.1
      have o1 := hid k2.one
      have o2 := hid k5.one
      clear hpt hx ri a5 HP
      go_wp2_with (first
        | ((with_reducible show wpList _ _ _ (Oper.mk _ (Op.indexAddr _ _ _) _ _ _ _ :: Oper.mk _ (Op.load _ _) _ _ _ _ :: _) _ _); refine wl_idxloadE (s := shLayer) (j := i) rfl rfl rfl rfl (fun _ => rfl) rfl rfl rfl hp a6 a7 hlt hs1 hci ?_; simp only [ofCs, Sh.agg, if_true])
        | ((with_reducible show wpList _ _ _ (Oper.mk _ (Op.call _) _ _ _ _ :: _) _ _); refine wl_appz rfl rfl rfl rfl (own_ext own0 (Ext.alloc _ _)) ((k1.ext he).ext (Ext.alloc _ _)) (by rw [u1, Nat.mul_one]) k3 o1.out (by unfold maxLen; omega) (by omega) (by simp; omega) ?_; intro v1 w1 own1 g1; have e1 := (he.trans (Ext.alloc _ _)).grown g1 (fun k hk => own_le own0 k hk); have x1 := (Chg.of_grown g1).cellOf (b := wr.heap.size) (by simp) (fun h => by have := own_lt own0 _ h.symm; omega); have hB1 := e1.size)
        | ((with_reducible show wpList _ _ _ (Oper.mk _ (Op.call _) _ _ _ _ :: _) _ _); refine wl_appz rfl rfl rfl rfl own1 (k4.ext e1) (by rw [u2, Nat.mul_one]) k6 o2.out (by unfold maxLen; omega) (by omega) hB1 ?_; intro v2 w2 own2 g2))
      go_roundw
      case rel =>
        refine ⟨i + 1, (vs ++ us) ++ ws, by omega, by go_num, ?_, ?_, e1.grown g2 (fun k hk => own_le own1 k hk)⟩
        · rw [Hpt.out, List.length_append, List.length_append, ← Nat.add_assoc]; exact own2
        · rw [Hid, Hpt.out, ← List.append_assoc]; exact (HF.out.app k2).app k5
      case measure => simp [intOf]; omega
    · obtain rfl : i = n := by omega
      have ht : l.take i = l := List.take_of_length_le (by rw [HL.out]; exact Nat.le_refl _)
      rw [ht] at own0 HF
      go_wp2
      go_ret
      exact retFl_of rfl own0 HF.out rfl he

end Go.Proofs.Ytlimabbeaimdgaa
/- Rounding: what is written of a number is monotone, powers of two stay what they are; bounds of sums, products and quotients of doubles. -/
namespace Go.Proofs.Ytlimabbeaimdgaa.Rnd
set_option linter.unusedSimpArgs false
set_option linter.unusedVariables false
open Ieee

/-- 'n / g' to the nearest, halves to the even one. -/
def rhe (n g : Nat) : Nat := n / g + (decide (g < 2 * (n % g)) || (g == 2 * (n % g) && n / g % 2 == 1)).toNat
theorem toNat_le (b : Bool) : b.toNat ≤ 1 := by cases b <;> decide
theorem rhe_le (n g : Nat) : rhe n g ≤ n / g + 1 := Nat.add_le_add_left (toNat_le _) _
theorem le_rhe (n g : Nat) : n / g ≤ rhe n g := Nat.le_add_right _ _
theorem rhe_small {n g : Nat} (h : 2 * n < g) : rhe n g = 0 := by
  unfold rhe
  have h1 : n / g = 0 := Nat.div_eq_of_lt (by omega)
  have h2 : n % g = n := Nat.mod_eq_of_lt (by omega)
  rw [h1, h2]
  simp; omega
theorem rhe_one (n : Nat) : rhe n 1 = n := by unfold rhe; simp [Nat.mod_one]
theorem rhe_scale {n g c : Nat} (hc : 0 < c) : rhe (n * c) (g * c) = rhe n g := by
  unfold rhe
  rw [Nat.mul_div_mul_right _ _ hc, Nat.mul_mod_mul_right, ← Nat.mul_assoc]
  have h1 : decide (g * c < 2 * (n % g) * c) = decide (g < 2 * (n % g)) := by
    rw [Bool.eq_iff_iff, decide_eq_true_eq, decide_eq_true_eq, Nat.mul_lt_mul_right hc]
  have h2 : (g * c == 2 * (n % g) * c) = (g == 2 * (n % g)) := by
    rw [Bool.eq_iff_iff, beq_iff_eq, beq_iff_eq, Nat.mul_right_cancel_iff hc]
  rw [h1, h2]
theorem rhe_mono {n m g : Nat} (h : n ≤ m) : rhe n g ≤ rhe m g := by
  by_cases hq : n / g = m / g
  · unfold rhe
    rw [← hq]
    apply Nat.add_le_add_left
    have h1 := Nat.div_add_mod n g
    have h2 := Nat.div_add_mod m g
    rw [← hq] at h2
    have h3 : n % g ≤ m % g := by omega
    generalize n % g = a at *
    generalize m % g = b at *
    generalize n / g = q at *
    by_cases ha : g < 2 * a
    · have hb : g < 2 * b := by omega
      simp [ha, hb]
    · by_cases he : g = 2 * a
      · by_cases hb : g < 2 * b
        · simp only [decide_eq_true hb, Bool.true_or]; exact toNat_le _
        · have : a = b := by omega
          rw [this]; exact Nat.le_refl _
      · have he' : (g == 2 * a) = false := by simpa using he
        simp [ha, he']
  · have h1 : n / g ≤ m / g := Nat.div_le_div_right h
    have := rhe_le n g
    have := le_rhe m g
    omega
theorem cnt_mul (m n A B C K : Nat) (h : A + K = B + C) : m * n * 2 ^ A * 2 ^ K = m * 2 ^ B * (n * 2 ^ C) := by
  rw [Nat.mul_assoc, ← Nat.pow_add, h, Nat.pow_add, Nat.mul_mul_mul_comm]
theorem quot_shift (m n I J c more k K : Nat) (e1 : I + K = c + 1 + more + J) (h : m * 2 ^ I * 2 ^ K ≤ n * 2 ^ J * 2 ^ k) : m * 2 ^ more * 2 ^ (c + 1) * 2 ^ J ≤ n * 2 ^ k * 2 ^ J := by
  rw [Nat.mul_assoc m, ← Nat.pow_add, e1, Nat.pow_add 2 _ J, Nat.pow_add 2 (c + 1) more] at h
  have e2 : m * 2 ^ more * 2 ^ (c + 1) * 2 ^ J = m * (2 ^ (c + 1) * 2 ^ more * 2 ^ J) := by
    rw [Nat.mul_assoc m, Nat.mul_assoc m, Nat.mul_comm (2 ^ more)]
  rw [e2, Nat.mul_right_comm n]; exact h
theorem le_pow {v a b : Nat} (h : v < 2 ^ a) (hab : a ≤ b) : v ≤ 2 ^ b := Nat.le_trans (Nat.le_of_lt h) (Nat.pow_le_pow_right (by decide) hab)
theorem le_pow2 {v a b : Nat} (h : v ≤ 2 ^ a) (hab : a ≤ b) : v ≤ 2 ^ b := Nat.le_trans h (Nat.pow_le_pow_right (by decide) hab)
theorem pow_split (a b : Nat) {c : Nat} (h : a + b = c) : 2 ^ a * 2 ^ b = 2 ^ c := by subst h; exact (Nat.pow_add 2 a b).symm
theorem pow_two_mul (a : Nat) {c : Nat} (h : c = a + 1) : 2 ^ c = 2 * 2 ^ a := by subst h; rw [Nat.pow_succ, Nat.mul_comm]
theorem log2_lt_pow (n : Nat) : n < 2 ^ (n.log2 + 1) := Nat.lt_log2_self
theorem cut_eq (s : Bool) (n drop : Nat) : Toward.even.cut s n drop = rhe n (2 ^ drop) := by
  have key : Toward.even.cut s n drop = rhe n (1 <<< min drop (n.log2 + 2)) := rfl
  rw [key, Nat.one_shiftLeft]
  by_cases h : drop ≤ n.log2 + 2
  · rw [Nat.min_eq_left h]
  · rw [Nat.min_eq_right (by omega)]
    have h1 := log2_lt_pow n
    have h2 : 2 ^ (n.log2 + 2) = 2 * 2 ^ (n.log2 + 1) := by rw [Nat.pow_succ, Nat.mul_comm]
    have h3 : 2 ^ (n.log2 + 2) ≤ 2 ^ drop := Nat.pow_le_pow_right (by decide) (by omega)
    rw [rhe_small (by omega), rhe_small (by omega)]

/-- The rung of a magnitude, counted in units of a place 'L' places under the least one. -/
def uOf (f : Format) (L V : Nat) : Nat := max (V.log2 - f.fractionBits) L
def rung (f : Format) (L V : Nat) : Nat := if V = 0 then 0 else min ((uOf f L V - L) * f.binade + rhe V (2 ^ uOf f L V)) f.infRung
theorem log2_mul_pow {m : Nat} (hm : m ≠ 0) (k : Nat) : (m * 2 ^ k).log2 = m.log2 + k := by
  have h1 : 2 ^ m.log2 ≤ m := Nat.log2_self_le hm
  have h2 : m < 2 ^ (m.log2 + 1) := Nat.lt_log2_self
  have h0 : m * 2 ^ k ≠ 0 := Nat.ne_of_gt (Nat.mul_pos (Nat.pos_of_ne_zero hm) (Nat.two_pow_pos k))
  rw [Nat.log2_eq_iff h0]
  constructor
  · rw [Nat.pow_add]; exact Nat.mul_le_mul_right _ h1
  · rw [show m.log2 + k + 1 = (m.log2 + 1) + k by omega, Nat.pow_add]; exact Nat.mul_lt_mul_of_pos_right h2 (Nat.two_pow_pos k)
theorem nearest_eq (f : Format) (s : Bool) (m : Nat) (e B : Int) (hB : B ≤ e) (hL : B ≤ f.leastPlace) :
    f.nearest s m e = f.word s (rung f (f.leastPlace - B).toNat (m * 2 ^ (e - B).toNat)) := by
  unfold Format.nearest rung
  dsimp only
  by_cases hm : m = 0
  · subst hm; simp
  · have h0 : m * 2 ^ (e - B).toNat ≠ 0 := Nat.ne_of_gt (Nat.mul_pos (Nat.pos_of_ne_zero hm) (Nat.two_pow_pos _))
    rw [if_neg hm, if_neg h0, cut_eq, Nat.shiftLeft_eq]
    congr 2
    have hu : uOf f (f.leastPlace - B).toNat (m * 2 ^ (e - B).toNat) = (max (e + (m.log2 : Int) - (f.fractionBits : Int)) f.leastPlace - B).toNat := by
      unfold uOf
      rw [log2_mul_pow hm]
      omega
    rw [hu]
    generalize hl : max (e + (m.log2 : Int) - (f.fractionBits : Int)) f.leastPlace = last
    have hlB : f.leastPlace ≤ last := by omega
    have e1 : (last - B).toNat - (f.leastPlace - B).toNat = (last - f.leastPlace).toNat := by omega
    rw [e1]
    congr 1
    by_cases hc : last ≤ e
    · have e2 : (last - e).toNat = 0 := by omega
      have e3 : (e - B).toNat = (e - last).toNat + (last - B).toNat := by omega
      rw [e2, e3, Nat.pow_zero, Nat.pow_add, ← Nat.mul_assoc]
      have := rhe_scale (n := m * 2 ^ (e - last).toNat) (g := 1) (Nat.two_pow_pos (last - B).toNat)
      rw [Nat.one_mul] at this
      rw [this]
    · have e2 : (e - last).toNat = 0 := by omega
      have e3 : (last - B).toNat = (last - e).toNat + (e - B).toNat := by omega
      rw [e2, e3, Nat.pow_zero, Nat.mul_one, Nat.pow_add, rhe_scale (Nat.two_pow_pos _)]
theorem uOf_mono (f : Format) (L : Nat) {V W : Nat} (h : V ≤ W) (hV : V ≠ 0) : uOf f L V ≤ uOf f L W := by
  have : V.log2 ≤ W.log2 := by
    have h1 := Nat.log2_self_le hV
    rw [Nat.le_log2 (by omega)]; omega
  unfold uOf; omega
theorem div_lt_of {V k j : Nat} (h : V < 2 ^ (k + j)) : V / 2 ^ k < 2 ^ j := by
  rw [Nat.div_lt_iff_lt_mul (Nat.two_pow_pos k), Nat.mul_comm, ← Nat.pow_add]; exact h
theorem kept_le (f : Format) (L V : Nat) : rhe V (2 ^ uOf f L V) ≤ 2 * f.binade := by
  have h1 := log2_lt_pow V
  have h2 : V < 2 ^ (uOf f L V + (f.fractionBits + 1)) := Nat.lt_of_lt_of_le h1 (Nat.pow_le_pow_right (by decide) (by unfold uOf; omega))
  have h3 := div_lt_of h2
  have h4 := rhe_le V (2 ^ uOf f L V)
  have h5 : 2 ^ (f.fractionBits + 1) = 2 * f.binade := by rw [Nat.pow_succ, Nat.mul_comm]; rfl
  omega
theorem rung_mono (f : Format) (L : Nat) {V W : Nat} (h : V ≤ W) : rung f L V ≤ rung f L W := by
  unfold rung
  by_cases hV : V = 0
  · rw [if_pos hV]; exact Nat.zero_le _
  · rw [if_neg hV, if_neg (by omega)]
    have hu := uOf_mono f L h hV
    suffices (uOf f L V - L) * f.binade + rhe V (2 ^ uOf f L V) ≤ (uOf f L W - L) * f.binade + rhe W (2 ^ uOf f L W) by omega
    by_cases he : uOf f L V = uOf f L W
    · rw [he]; exact Nat.add_le_add_left (rhe_mono h) _
    · have hlt : uOf f L V < uOf f L W := by omega
      have hL : L ≤ uOf f L V := by unfold uOf; omega
      have h1 := kept_le f L V
      have h2 : uOf f L W = W.log2 - f.fractionBits := by unfold uOf at hlt ⊢; omega
      have h3 : 2 ^ (uOf f L W + f.fractionBits) ≤ W := by
        have : uOf f L W + f.fractionBits = W.log2 := by omega
        rw [this]; exact Nat.log2_self_le (by omega)
      have h4 : f.binade ≤ W / 2 ^ uOf f L W := by
        rw [Nat.le_div_iff_mul_le (Nat.two_pow_pos _), Nat.mul_comm]
        rw [Nat.pow_add] at h3; exact h3
      have h5 := le_rhe W (2 ^ uOf f L W)
      have h6 : (uOf f L V - L + 1) * f.binade ≤ (uOf f L W - L) * f.binade := Nat.mul_le_mul_right _ (by omega)
      rw [Nat.add_mul, Nat.one_mul] at h6
      omega
/-- The magnitude of a rung. -/
def val (f : Format) (L r : Nat) : Nat := if r < f.binade then r * 2 ^ L else (f.binade + r % f.binade) * 2 ^ (L + (r / f.binade - 1))
theorem rung_val (f : Format) (L : Nat) {r : Nat} (hr : r ≤ f.infRung) : rung f L (val f L r) = r := by
  have hb : 0 < f.binade := Nat.two_pow_pos _
  unfold val
  by_cases h : r < f.binade
  · rw [if_pos h]
    by_cases h0 : r = 0
    · subst h0; simp [rung]
    · have hne : r * 2 ^ L ≠ 0 := Nat.ne_of_gt (Nat.mul_pos (by omega) (Nat.two_pow_pos L))
      have hu : uOf f L (r * 2 ^ L) = L := by
        unfold uOf
        rw [log2_mul_pow h0]
        have : r.log2 < f.fractionBits := (Nat.log2_lt h0).2 h
        omega
      unfold rung
      rw [if_neg hne, hu, Nat.sub_self, Nat.zero_mul, Nat.zero_add]
      have := rhe_scale (n := r) (g := 1) (Nat.two_pow_pos L)
      rw [Nat.one_mul, rhe_one] at this
      rw [this]; omega
  · rw [if_neg h]
    have hq : 1 ≤ r / f.binade := (Nat.le_div_iff_mul_le hb).2 (by omega)
    have hm : r % f.binade < f.binade := Nat.mod_lt _ hb
    have hdm := Nat.div_add_mod r f.binade
    generalize r / f.binade = q at *
    generalize hx : f.binade + r % f.binade = x at *
    have hx0 : x ≠ 0 := by omega
    have hlog : x.log2 = f.fractionBits := by
      rw [Nat.log2_eq_iff hx0]
      have hb2 : f.binade = 2 ^ f.fractionBits := rfl
      rw [Nat.pow_succ]; omega
    have hne : x * 2 ^ (L + (q - 1)) ≠ 0 := Nat.ne_of_gt (Nat.mul_pos (by omega) (Nat.two_pow_pos _))
    have hu : uOf f L (x * 2 ^ (L + (q - 1))) = L + (q - 1) := by
      unfold uOf
      rw [log2_mul_pow hx0, hlog]
      omega
    unfold rung
    rw [if_neg hne, hu]
    have := rhe_scale (n := x) (g := 1) (Nat.two_pow_pos (L + (q - 1)))
    rw [Nat.one_mul, rhe_one] at this
    rw [this, show L + (q - 1) - L = q - 1 by omega]
    have : (q - 1) * f.binade + f.binade = q * f.binade := by
      rw [← Nat.succ_mul]; congr 1; omega
    rw [Nat.mul_comm f.binade q] at hdm
    omega
theorem val_mono (f : Format) (L : Nat) {r t : Nat} (ht : t ≤ f.infRung) (h : r ≤ t) : val f L r ≤ val f L t := by
  refine Nat.le_of_not_lt fun hlt => ?_
  have h1 := rung_mono f L (Nat.le_of_lt hlt)
  rw [rung_val f L ht, rung_val f L (Nat.le_trans h ht)] at h1
  have : r = t := by omega
  subst this
  omega
theorem le_rung (f : Format) (L : Nat) {V r : Nat} (hr : r ≤ f.infRung) (h : val f L r ≤ V) : r ≤ rung f L V := by
  have := rung_mono f L h; rwa [rung_val f L hr] at this
theorem rung_le (f : Format) (L : Nat) {V r : Nat} (hr : r ≤ f.infRung) (h : V ≤ val f L r) : rung f L V ≤ r := by
  have := rung_mono f L h; rwa [rung_val f L hr] at this

/-- The place under which all counting is done. -/
def Lo (f : Format) : Nat := (f.leastPlace + 4000).toNat
theorem lo_single : Lo single = 3851 := by decide
theorem lo_double : Lo double = 2926 := by decide
/-- A magnitude, rounded. -/
def rd (f : Format) (V : Nat) : Nat := val f (Lo f) (rung f (Lo f) V)
/-- What 'mag * 2 ^ place' comes to, counted in 2 ^ -4000. -/
def cnt (m : Nat) (e : Int) : Nat := m * 2 ^ (e + 4000).toNat
/-- The word 'b' is a finite number of sign 's' and magnitude 'v'. -/
def Fin (f : Format) (b : Nat) (s : Bool) (v : Nat) : Prop := ∃ m e, f.read b = .number s m e ∧ f.leastPlace ≤ e ∧ cnt m e = v
/-- Formats that are in use. -/
structure Ok (f : Format) : Prop where
  lp : -4000 ≤ f.leastPlace
theorem ok_single : Ok single := ⟨by decide⟩
theorem ok_double : Ok double := ⟨by decide⟩
theorem word_mod (f : Format) (s : Bool) {r : Nat} (hr : r < f.signWeight) : f.word s r % f.signWeight = r ∧ (f.word s r / f.signWeight % 2 == 1) = s := by
  have h0 : 0 < f.signWeight := by omega
  unfold Format.word
  cases s
  · simp [Nat.mod_eq_of_lt hr, Nat.div_eq_of_lt hr]
  · simp only [if_true]
    rw [Nat.add_mod_left, Nat.mod_eq_of_lt hr, Nat.add_div_left _ h0, Nat.div_eq_of_lt hr]
    exact ⟨rfl, rfl⟩
theorem read_word (f : Format) (ok : Ok f) (s : Bool) {r : Nat} (hr : r < f.infRung) : Fin f (f.word s r) s (val f (Lo f) r) := by
  have hlt : r < f.signWeight := Nat.lt_trans hr f.infRung_lt
  obtain ⟨h1, h2⟩ := word_mod f s hlt
  have hL : (f.leastPlace + 4000).toNat = Lo f := rfl
  have hlp := ok.lp
  unfold Fin Format.read
  simp only [h1, h2]
  unfold val cnt
  split
  · exact ⟨_, _, rfl, Int.le_refl _, by rw [hL]⟩
  · try rw [if_pos hr]
    refine ⟨_, _, rfl, by omega, ?_⟩
    have : (f.leastPlace + ((r / f.binade - 1 : Nat) : Int) + 4000).toNat = Lo f + (r / f.binade - 1) := by unfold Lo; omega
    rw [this]
theorem nearest_cnt (f : Format) (ok : Ok f) (s : Bool) (m : Nat) {e : Int} (he : -4000 ≤ e) : f.nearest s m e = f.word s (rung f (Lo f) (cnt m e)) := by
  have := nearest_eq f s m e (-4000) he ok.lp
  have h1 : (f.leastPlace - -4000).toNat = Lo f := by unfold Lo; congr 1
  have h2 : (e - -4000).toNat = (e + 4000).toNat := by congr 1
  rw [this, h1, h2]; rfl
theorem rd_mono (f : Format) {V W : Nat} (h : V ≤ W) : rd f V ≤ rd f W := by
  refine val_mono f _ ?_ (rung_mono f _ h)
  unfold rung; split
  · exact Nat.zero_le _
  · exact Nat.min_le_right _ _
theorem rd_zero (f : Format) : rd f 0 = 0 := by
  have hb : 0 < f.binade := Nat.two_pow_pos _
  unfold rd rung val; rw [if_pos rfl, if_pos hb, Nat.zero_mul]
theorem fin_write (f : Format) (ok : Ok f) (s : Bool) (m : Nat) {e : Int} (he : -4000 ≤ e) (h : rung f (Lo f) (cnt m e) < f.infRung) : Fin f (f.write (.number s m e)) s (rd f (cnt m e)) := by
  show Fin f (f.nearest s m e) s _
  rw [nearest_cnt f ok s m he]
  exact read_word f ok s h
theorem rung_pow (f : Format) (q : Nat) : val f (Lo f) ((q + 1) * f.binade) = 2 ^ (f.fractionBits + (Lo f + q)) := by
  have hb : 0 < f.binade := Nat.two_pow_pos _
  have h1 : ¬ (q + 1) * f.binade < f.binade := by rw [Nat.add_mul, Nat.one_mul]; omega
  unfold val
  rw [if_neg h1, Nat.mul_mod_left, Nat.mul_div_cancel _ hb, Nat.add_zero, Nat.add_sub_cancel, Nat.pow_add 2 f.fractionBits]
  rfl
theorem rd_pow (f : Format) {q : Nat} (hq : (q + 1) * f.binade ≤ f.infRung) : rd f (2 ^ (f.fractionBits + (Lo f + q))) = 2 ^ (f.fractionBits + (Lo f + q)) := by
  unfold rd
  rw [← rung_pow, rung_val f _ hq]
/-- Powers of two are not rounded (double). -/
theorem rd_two {k : Nat} (h1 : 2978 ≤ k) (h2 : k ≤ 5023) : rd double (2 ^ k) = 2 ^ k := by
  have hb : (Ieee.double).binade = 4503599627370496 := by decide
  have hi : (Ieee.double).infRung = 9218868437227405312 := by decide
  have hf : (Ieee.double).fractionBits = 52 := rfl
  have h := rd_pow double (q := k - 2978) (by rw [hb, hi]; omega)
  rw [hf, lo_double, show 52 + (2926 + (k - 2978)) = k by omega] at h
  exact h
theorem rung_dbl {V : Nat} (h : V ≤ 2 ^ 5023) : rung double (Lo double) V < (Ieee.double).infRung := by
  have hb : (Ieee.double).binade = 4503599627370496 := by decide
  have hi : (Ieee.double).infRung = 9218868437227405312 := by decide
  have hf : (Ieee.double).fractionBits = 52 := rfl
  have h1 := rung_pow double 2045
  rw [hf, lo_double, show 52 + (2926 + 2045) = 5023 by rfl] at h1
  have h2 := rung_le double 2926 (V := V) (r := (2045 + 1) * (Ieee.double).binade) (by rw [hb, hi]; decide) (by rw [h1]; exact h)
  rw [lo_double]
  rw [hb] at h2; rw [hi]; omega
theorem dbl_write (s : Bool) (m : Nat) {e : Int} (he : -4000 ≤ e) (h : cnt m e ≤ 2 ^ 5023) : Fin double (Ieee.double.write (.number s m e)) s (rd double (cnt m e)) :=
  fin_write double ok_double s m he (rung_dbl h)
theorem rd_le {V k : Nat} (h1 : 2978 ≤ k) (h2 : k ≤ 5023) (h : V ≤ 2 ^ k) : rd double V ≤ 2 ^ k := by
  have := rd_mono double h; rwa [rd_two h1 h2] at this
theorem le_rd {V k : Nat} (h1 : 2978 ≤ k) (h2 : k ≤ 5023) (h : 2 ^ k ≤ V) : 2 ^ k ≤ rd double V := by
  have := rd_mono double h; rwa [rd_two h1 h2] at this
/-- A number that is not too great for a single. -/
theorem single_write (s : Bool) (m : Nat) {e : Int} (he : -4000 ≤ e) (h : cnt m e ≤ 2 ^ 4127) : (Ieee.single.read (Ieee.single.write (.number s m e))).isInfinity = false := by
  have hb : (Ieee.single).binade = 8388608 := by decide
  have hi : (Ieee.single).infRung = 2139095040 := by decide
  have hf : (Ieee.single).fractionBits = 23 := rfl
  have h1 := rung_pow single 253
  rw [hf, lo_single, show 23 + (3851 + 253) = 4127 by rfl] at h1
  have h2 := rung_le single 3851 (V := cnt m e) (r := (253 + 1) * (Ieee.single).binade) (by rw [hb, hi]; decide) (by rw [h1]; exact h)
  obtain ⟨m', e', h3, _⟩ := fin_write single ok_single s m he (by rw [lo_single, hi]; rw [hb] at h2; omega)
  rw [h3]; rfl
/-- A magnitude with its sign. -/
def sg (s : Bool) (v : Nat) : Int := if s then -(v : Int) else v
theorem signed_sg (s : Bool) (m k c : Nat) : signed s m k * (2 ^ c : Nat) = sg s (m * 2 ^ (k + c)) := by
  unfold signed sg
  rw [Nat.shiftLeft_eq, Nat.pow_add, ← Nat.mul_assoc]
  split
  · rw [Int.neg_mul]; congr 1
  · rfl
theorem cnt_split {i b : Int} (m : Nat) (h1 : b ≤ i) (h2 : -4000 ≤ b) : m * 2 ^ ((i - b).toNat + (b + 4000).toNat) = cnt m i := by
  unfold cnt
  have : (i - b).toNat + (b + 4000).toNat = (i + 4000).toNat := by omega
  rw [this]
theorem natAbs_pow (T : Int) (c : Nat) : T.natAbs * 2 ^ c = (T * (2 ^ c : Nat)).natAbs := by rw [Int.natAbs_mul, Int.natAbs_natCast]
theorem dbl_lp : (Ieee.double).leastPlace = -1074 := by decide
/-- A sum. -/
theorem dbl_sum {d e : Datum} {s t : Bool} {m n : Nat} {i j : Int} (hd : d = .number s m i) (he : e = .number t n j) (hi : -1074 ≤ i) (hj : -1074 ≤ j) (hb : (sg s (cnt m i) + sg t (cnt n j)).natAbs ≤ 2 ^ 5023) :
    ∃ r, (d.sum e).map Ieee.double.write = some r ∧ Fin double r (if sg s (cnt m i) + sg t (cnt n j) = 0 then s && t else decide (sg s (cnt m i) + sg t (cnt n j) < 0)) (rd double (sg s (cnt m i) + sg t (cnt n j)).natAbs) := by
  subst hd he
  have h1 := signed_sg s m (i - min i j).toNat (min i j + 4000).toNat
  have h2 := signed_sg t n (j - min i j).toNat (min i j + 4000).toNat
  rw [cnt_split m (by omega) (by omega)] at h1
  rw [cnt_split n (by omega) (by omega)] at h2
  have h3 : (signed s m (i - min i j).toNat + signed t n (j - min i j).toNat) * (2 ^ (min i j + 4000).toNat : Nat) = sg s (cnt m i) + sg t (cnt n j) := by rw [Int.add_mul, h1, h2]
  rw [← h3] at hb ⊢
  have hp : (0 : Int) < ((2 ^ (min i j + 4000).toNat : Nat) : Int) := Int.natCast_pos.2 (Nat.two_pow_pos _)
  simp only [Datum.sum, Option.map_some, Option.some.injEq, exists_eq_left']
  generalize signed s m (i - min i j).toNat + signed t n (j - min i j).toNat = T at *
  have hz : (T * ((2 ^ (min i j + 4000).toNat : Nat) : Int) = 0) = (T = 0) := by
    rw [eq_iff_iff]; constructor
    · intro h; rcases Int.mul_eq_zero.1 h with h | h
      · exact h
      · omega
    · rintro rfl; exact Int.zero_mul _
  have hn : (T * ((2 ^ (min i j + 4000).toNat : Nat) : Int) < 0) = (T < 0) := by
    rw [eq_iff_iff]; constructor
    · intro h
      refine Int.not_le.1 fun h0 => ?_
      have := Int.mul_nonneg h0 (Int.le_of_lt hp); omega
    · intro h; exact Int.mul_neg_of_neg_of_pos h hp
  simp only [hz, hn]
  rw [← natAbs_pow] at hb ⊢
  exact dbl_write _ _ (by omega) hb
theorem dbl_add {x y : Nat} {s t : Bool} {v w : Nat} (hx : Fin double x s v) (hy : Fin double y t w) (hb : (sg s v + sg t w).natAbs ≤ 2 ^ 5023) :
    ∃ r, Ieee.double.add x y = some r ∧ Fin double r (if sg s v + sg t w = 0 then s && t else decide (sg s v + sg t w < 0)) (rd double (sg s v + sg t w).natAbs) := by
  obtain ⟨m, i, h1, h2, rfl⟩ := hx
  obtain ⟨n, j, h3, h4, rfl⟩ := hy
  rw [dbl_lp] at h2 h4
  exact dbl_sum h1 h3 h2 h4 hb
theorem dbl_sub {x y : Nat} {s t : Bool} {v w : Nat} (hx : Fin double x s v) (hy : Fin double y t w) (hb : (sg s v + sg (!t) w).natAbs ≤ 2 ^ 5023) :
    ∃ r, Ieee.double.sub x y = some r ∧ Fin double r (if sg s v + sg (!t) w = 0 then s && !t else decide (sg s v + sg (!t) w < 0)) (rd double (sg s v + sg (!t) w).natAbs) := by
  obtain ⟨m, i, h1, h2, rfl⟩ := hx
  obtain ⟨n, j, h3, h4, rfl⟩ := hy
  rw [dbl_lp] at h2 h4
  exact dbl_sum h1 (e := (Ieee.double.read y).opposite) (by rw [h3]; rfl) h2 h4 hb
/-- A product. -/
theorem dbl_mul {x y : Nat} {s t : Bool} {v w V : Nat} (hx : Fin double x s v) (hy : Fin double y t w) (hV : V * 2 ^ 4000 = v * w) (hb : V ≤ 2 ^ 5023) :
    ∃ r, Ieee.double.mul x y = some r ∧ Fin double r (s ^^ t) (rd double V) := by
  obtain ⟨m, i, h1, h2, rfl⟩ := hx
  obtain ⟨n, j, h3, h4, rfl⟩ := hy
  rw [dbl_lp] at h2 h4
  unfold Format.mul
  rw [h1, h3]
  simp only [Datum.product, Option.map_some, Option.some.injEq, exists_eq_left']
  have h5 : cnt (m * n) (i + j) * 2 ^ 4000 = cnt m i * cnt n j := by
    have e : (i + j + 4000).toNat + 4000 = (i + 4000).toNat + (j + 4000).toNat := by omega
    unfold cnt
    exact cnt_mul m n _ _ _ 4000 e
  have h6 : cnt (m * n) (i + j) = V := Nat.eq_of_mul_eq_mul_right (Nat.two_pow_pos 4000) (h5.trans hV.symm)
  rw [← h6] at hb ⊢
  exact dbl_write _ _ (by omega) hb
theorem fin_mul {x y : Nat} {s t : Bool} {v w : Nat} {a b : Nat} (hx : Fin double x s v) (hy : Fin double y t w) (ha : v ≤ 2 ^ a) (hb : w ≤ 2 ^ b) (h1 : 6978 ≤ a + b) (h2 : a + b ≤ 9023) :
    ∃ r u, Ieee.double.mul x y = some r ∧ Fin double r (s ^^ t) u ∧ u ≤ 2 ^ (a + b - 4000) ∧ (v = 0 → u = 0) := by
  obtain ⟨m, i, g1, g2, rfl⟩ := hx
  obtain ⟨n, j, g3, g4, rfl⟩ := hy
  rw [dbl_lp] at g2 g4
  have h5 : cnt (m * n) (i + j) * 2 ^ 4000 = cnt m i * cnt n j := by
    have e : (i + j + 4000).toNat + 4000 = (i + 4000).toNat + (j + 4000).toNat := by omega
    unfold cnt
    exact cnt_mul m n _ _ _ 4000 e
  have h6 : cnt (m * n) (i + j) ≤ 2 ^ (a + b - 4000) := by
    refine Nat.le_of_mul_le_mul_right (c := 2 ^ 4000) ?_ (Nat.two_pow_pos 4000)
    rw [h5, ← Nat.pow_add 2 (a + b - 4000) 4000, show a + b - 4000 + 4000 = a + b by omega, Nat.pow_add 2 a b]
    exact Nat.mul_le_mul ha hb
  obtain ⟨r, h7, h8⟩ := dbl_mul ⟨m, i, g1, by rw [dbl_lp]; exact g2, rfl⟩ ⟨n, j, g3, by rw [dbl_lp]; exact g4, rfl⟩ h5 (le_pow2 (b := 5023) h6 (by omega))
  refine ⟨r, _, h7, h8, rd_le (by omega) (by omega) h6, fun h0 => ?_⟩
  have h9 : cnt (m * n) (i + j) = 0 := by
    rw [h0, Nat.zero_mul] at h5
    rcases Nat.mul_eq_zero.1 h5 with h | h
    · exact h
    · exact absurd h (Nat.ne_of_gt (Nat.two_pow_pos 4000))
  rw [h9, rd_zero]
theorem dbl_read {x : Nat} {s : Bool} {m : Nat} {e : Int} (h : Ieee.double.read x = .number s m e) : m < 9007199254740992 ∧ -1074 ≤ e ∧ e ≤ 971 := by
  have hs : (Ieee.double).signWeight = 9223372036854775808 := by decide
  have hi : (Ieee.double).infRung = 9218868437227405312 := by decide
  have hb : (Ieee.double).binade = 4503599627370496 := by decide
  unfold Format.read at h
  simp only [hs, hi, hb, dbl_lp] at h
  split at h
  · cases h; omega
  · split at h
    · cases h; omega
    · split at h <;> cases h
theorem quot_le {D n T : Nat} (hn : n ≠ 0) (h : D ≤ n * T) : 2 * (D / n) + (D % n != 0).toNat ≤ 2 * T := by
  have h1 := Nat.div_add_mod D n
  have h2 : D / n ≤ T := by
    rw [Nat.mul_comm] at h
    exact Nat.div_le_of_le_mul (by rw [Nat.mul_comm]; exact h)
  by_cases h3 : D % n = 0
  · simp [h3]; omega
  · have h4 : D / n ≠ T := by
      rintro h5; rw [h5] at h1; omega
    have h5 := toNat_le (D % n != 0)
    omega
/-- A quotient that is not greater than 2 ^ k (k counted from 4000). -/
theorem fin_div {x y : Nat} {s t : Bool} {v w : Nat} {k : Nat} (hx : Fin double x s v) (hy : Fin double y t w) (hw : w ≠ 0) (h : v * 2 ^ 4000 ≤ w * 2 ^ k) (h1 : 2978 ≤ k) (h2 : k ≤ 5023) :
    ∃ r u, Ieee.double.div x y = some r ∧ Fin double r (s ^^ t) u ∧ u ≤ 2 ^ k ∧ (v = 0 → u = 0) := by
  obtain ⟨m, i, g1, g2, rfl⟩ := hx
  obtain ⟨n, j, g3, g4, rfl⟩ := hy
  rw [dbl_lp] at g2 g4
  have hn : n ≠ 0 := by rintro rfl; exact hw (Nat.zero_mul _)
  unfold Format.div
  rw [g1, g3]
  have hq : Datum.quotient (Ieee.double.fractionBits + 2) (.number s m i) (.number t n j) = some (.number (s ^^ t) (2 * ((m <<< (54 + n.log2 - m.log2)) / n) + ((m <<< (54 + n.log2 - m.log2)) % n != 0).toNat) (i - j - (54 + n.log2 - m.log2 : Nat) - 1)) := by
    simp only [Datum.quotient, if_neg hn]; rfl
  rw [hq]
  simp only [Option.map_some, Option.some.injEq, exists_and_left, exists_eq_left']
  obtain ⟨b1, b2, b3⟩ := dbl_read g1
  obtain ⟨b4, b5, b6⟩ := dbl_read g3
  have hlm : m.log2 ≤ 52 := by
    by_cases h0 : m = 0
    · subst h0; decide
    · have := (Nat.log2_lt h0).2 (show m < 2 ^ 53 from b1); omega
  have hln : n.log2 ≤ 52 := by have := (Nat.log2_lt hn).2 (show n < 2 ^ 53 from b4); omega
  obtain ⟨more, hmore⟩ : ∃ more, more = 54 + n.log2 - m.log2 := ⟨_, rfl⟩
  rw [← hmore]
  have hc : cnt (2 * ((m <<< more) / n) + ((m <<< more) % n != 0).toNat) (i - j - more - 1) ≤ 2 ^ k := by
    obtain ⟨c, hcd⟩ : ∃ c, c = (i - j - more - 1 + 4000).toNat := ⟨_, rfl⟩
    have e1 : (i + 4000).toNat + 4000 = c + 1 + more + (j + 4000).toNat := by omega
    unfold cnt at h ⊢
    rw [← hcd]
    have h3 : m * 2 ^ more * 2 ^ (c + 1) ≤ n * 2 ^ k := by
      refine Nat.le_of_mul_le_mul_right (c := 2 ^ (j + 4000).toNat) ?_ (Nat.two_pow_pos _)
      exact quot_shift m n _ _ c more k 4000 e1 h
    rw [Nat.shiftLeft_eq]
    by_cases hck : c + 1 ≤ k
    · have h4 : m * 2 ^ more ≤ n * 2 ^ (k - (c + 1)) := by
        refine Nat.le_of_mul_le_mul_right (c := 2 ^ (c + 1)) ?_ (Nat.two_pow_pos _)
        rw [Nat.mul_assoc n, ← Nat.pow_add 2 (k - (c + 1)), show k - (c + 1) + (c + 1) = k by omega]; exact h3
      have h5 := Nat.mul_le_mul_right (2 ^ c) (quot_le hn h4)
      have e4 : 2 * 2 ^ (k - (c + 1)) * 2 ^ c = 2 ^ k := by
        rw [Nat.mul_comm 2, ← Nat.pow_succ, ← Nat.pow_add]; congr 1; omega
      rw [e4] at h5; exact h5
    · by_cases h0 : m = 0
      · subst h0; simp
      · exfalso
        have h5 : 2 ^ m.log2 ≤ m := Nat.log2_self_le h0
        have h6 : n < 2 ^ (n.log2 + 1) := Nat.lt_log2_self
        have h7 : 2 ^ (m.log2 + more) ≤ m * 2 ^ more := by rw [Nat.pow_add]; exact Nat.mul_le_mul_right _ h5
        have h8 : 2 ^ (n.log2 + 1) ≤ 2 ^ (m.log2 + more) := Nat.pow_le_pow_right (by decide) (by omega)
        have h9 : 2 ^ k ≤ 2 ^ (c + 1) := Nat.pow_le_pow_right (by decide) (by omega)
        have h10 : n * 2 ^ k < m * 2 ^ more * 2 ^ (c + 1) := Nat.lt_of_lt_of_le (Nat.mul_lt_mul_of_pos_right (by omega) (Nat.two_pow_pos k)) (Nat.mul_le_mul_left _ h9)
        omega
  refine ⟨_, dbl_write _ _ (by omega) (le_pow2 (b := 5023) hc h2), rd_le h1 h2 hc, fun h0 => ?_⟩
  have hm0 : m = 0 := by
    rcases Nat.mul_eq_zero.1 h0 with h | h
    · exact h
    · exact absurd h (Nat.ne_of_gt (Nat.two_pow_pos _))
  subst hm0
  have : cnt (2 * (0 <<< more / n) + (0 <<< more % n != 0).toNat) (i - j - more - 1) = 0 := by simp [cnt]
  rw [this, rd_zero]
/-- What can be written as it is, is not rounded. -/
theorem rd_exact (f : Format) {V : Nat} (h : 2 ^ uOf f (Lo f) V ∣ V) (hr : rung f (Lo f) V < f.infRung) : rd f V = V := by
  have hb : 0 < f.binade := Nat.two_pow_pos _
  by_cases h0 : V = 0
  · subst h0; exact rd_zero f
  obtain ⟨y, hy⟩ := h
  have hL : Lo f ≤ uOf f (Lo f) V := by unfold uOf; omega
  have hu2 : uOf f (Lo f) V = Lo f ∨ uOf f (Lo f) V = V.log2 - f.fractionBits := by unfold uOf; omega
  have hlt : V < 2 ^ (V.log2 + 1) := Nat.lt_log2_self
  have hle : 2 ^ V.log2 ≤ V := Nat.log2_self_le h0
  have hlu : V.log2 ≤ uOf f (Lo f) V + f.fractionBits := by unfold uOf; omega
  have hk : rhe V (2 ^ uOf f (Lo f) V) = y := by
    have := rhe_scale (n := y) (g := 1) (Nat.two_pow_pos (uOf f (Lo f) V))
    rw [Nat.one_mul, Nat.mul_comm y, ← hy, rhe_one] at this
    exact this
  have hy2 : y < 2 * f.binade := by
    have h1 : 2 ^ uOf f (Lo f) V * y < 2 ^ uOf f (Lo f) V * (2 * f.binade) := by
      rw [← hy]
      refine Nat.lt_of_lt_of_le hlt ?_
      have : 2 ^ uOf f (Lo f) V * (2 * f.binade) = 2 ^ (uOf f (Lo f) V + f.fractionBits + 1) := by
        rw [Nat.pow_succ, Nat.pow_add, Nat.mul_comm 2, ← Nat.mul_assoc]; rfl
      rw [this]
      exact Nat.pow_le_pow_right (by decide) (by omega)
    exact Nat.lt_of_mul_lt_mul_left h1
  have hrung : rung f (Lo f) V = (uOf f (Lo f) V - Lo f) * f.binade + y := by
    unfold rung at hr ⊢
    rw [if_neg h0, hk] at hr ⊢
    omega
  unfold rd
  rw [hrung]
  clear hr hrung
  rcases Nat.lt_or_ge y f.binade with hyb | hyb
  · have hul : uOf f (Lo f) V = Lo f := by
      rcases hu2 with h | h
      · exact h
      · refine Classical.byContradiction fun hne => ?_
        have h1 : V.log2 = uOf f (Lo f) V + f.fractionBits := by omega
        have h2 : 2 ^ uOf f (Lo f) V * f.binade ≤ 2 ^ uOf f (Lo f) V * y := by
          rw [← hy]
          have : 2 ^ uOf f (Lo f) V * f.binade = 2 ^ V.log2 := by rw [h1, Nat.pow_add]; rfl
          rw [this]; exact hle
        have := Nat.le_of_mul_le_mul_left h2 (Nat.two_pow_pos _)
        omega
    rw [hul, Nat.sub_self, Nat.zero_mul, Nat.zero_add]
    unfold val
    rw [if_pos hyb, Nat.mul_comm]
    rw [hul] at hy
    exact hy.symm
  · obtain ⟨d, hd⟩ : ∃ d, d = uOf f (Lo f) V - Lo f := ⟨_, rfl⟩
    rw [← hd]
    unfold val
    have e1 : d * f.binade + y = (y - f.binade) + (d + 1) * f.binade := by rw [Nat.add_mul, Nat.one_mul]; omega
    have e2 : (d * f.binade + y) % f.binade = y - f.binade := by rw [e1, Nat.add_mul_mod_self_right, Nat.mod_eq_of_lt (by omega)]
    have e3 : (d * f.binade + y) / f.binade = d + 1 := by rw [e1, Nat.add_mul_div_right _ _ hb, Nat.div_eq_of_lt (by omega), Nat.zero_add]
    rw [if_neg (by omega), e2, e3, show f.binade + (y - f.binade) = y by omega, show Lo f + (d + 1 - 1) = uOf f (Lo f) V by omega, Nat.mul_comm]
    exact hy.symm
theorem sgl_read {x : Nat} {s : Bool} {m : Nat} {e : Int} (h : Ieee.single.read x = .number s m e) : m < 16777216 ∧ -149 ≤ e ∧ e ≤ 104 := by
  have hs : (Ieee.single).signWeight = 2147483648 := by decide
  have hi : (Ieee.single).infRung = 2139095040 := by decide
  have hb : (Ieee.single).binade = 8388608 := by decide
  have hl : (Ieee.single).leastPlace = -149 := by decide
  unfold Format.read at h
  simp only [hs, hi, hb, hl] at h
  split at h
  · cases h; omega
  · split at h
    · cases h; omega
    · split at h <;> cases h
/-- A single, made a double, is the same number. -/
theorem widen_fin {x : Nat} {s : Bool} {m : Nat} {e : Int} (h : Ieee.single.read x = .number s m e) : Fin double (Ieee.double.write (.number s m e)) s (cnt m e) := by
  obtain ⟨h1, h2, h3⟩ := sgl_read h
  have hlt : cnt m e < 2 ^ 4128 := by
    unfold cnt
    calc m * 2 ^ (e + 4000).toNat < 2 ^ 24 * 2 ^ (e + 4000).toNat := Nat.mul_lt_mul_of_pos_right (by omega) (Nat.two_pow_pos _)
      _ = 2 ^ (24 + (e + 4000).toNat) := by rw [← Nat.pow_add]
      _ ≤ 2 ^ 4128 := Nat.pow_le_pow_right (by decide) (by omega)
  have hle : cnt m e ≤ 2 ^ 5023 := le_pow (a := 4128) (b := 5023) hlt (by decide)
  have hw := dbl_write s m (e := e) (by omega) hle
  rw [rd_exact double ?_ (rung_dbl hle)] at hw
  · exact hw
  · by_cases h0 : m = 0
    · subst h0; unfold cnt; rw [Nat.zero_mul]; exact Nat.dvd_zero _
    · have hlog : m.log2 < 24 := (Nat.log2_lt h0).2 (by omega)
      have hu : uOf double (Lo double) (cnt m e) ≤ (e + 4000).toNat := by
        unfold uOf cnt
        rw [log2_mul_pow h0, lo_double, show (Ieee.double).fractionBits = 52 from rfl]
        omega
      exact Nat.dvd_trans (Nat.pow_dvd_pow 2 hu) (Nat.dvd_mul_left _ _)
theorem cmp_scale {a b : Int} {c : Nat} : compare (a * (2 ^ c : Nat)) (b * (2 ^ c : Nat)) = compare a b := by
  have hp : (0 : Int) < ((2 ^ c : Nat) : Int) := Int.natCast_pos.2 (Nat.two_pow_pos c)
  have h1 : a * ((2 ^ c : Nat) : Int) < b * ((2 ^ c : Nat) : Int) ↔ a < b := ⟨fun h => Int.lt_of_mul_lt_mul_right h (Int.le_of_lt hp), fun h => Int.mul_lt_mul_of_pos_right h hp⟩
  have h2 : a * ((2 ^ c : Nat) : Int) = b * ((2 ^ c : Nat) : Int) ↔ a = b := Int.mul_eq_mul_right_iff (by omega)
  unfold compare
  simp only [instOrdInt, compareOfLessAndEq, h1, h2]
/-- How two finite numbers stand to each other. -/
theorem fin_order {f : Format} {x y : Nat} {s t : Bool} {v w : Nat} (ok : Ok f) (hx : Fin f x s v) (hy : Fin f y t w) : f.order x y = some (compare (sg s v) (sg t w)) := by
  obtain ⟨m, i, h1, h2, rfl⟩ := hx
  obtain ⟨n, j, h3, h4, rfl⟩ := hy
  have hl := ok.lp
  unfold Format.order
  rw [h1, h3]
  simp only [Datum.order, Option.some.injEq]
  have e1 := signed_sg s m (i - min i j).toNat (min i j + 4000).toNat
  have e2 := signed_sg t n (j - min i j).toNat (min i j + 4000).toNat
  rw [cnt_split m (by omega) (by omega)] at e1
  rw [cnt_split n (by omega) (by omega)] at e2
  rw [← e1, ← e2, cmp_scale]
end Go.Proofs.Ytlimabbeaimdgaa.Rnd
/- The exponential function and the hyperbolic tangent as the program makes them: bounds that keep them from being too great for a float32. -/
namespace Go.Proofs.Ytlimabbeaimdgaa
set_option linter.unusedSimpArgs false
set_option linter.unusedVariables false
open Rnd

theorem fmt64 : FloatKind.f64.format = Ieee.double := rfl
theorem fmt32 : FloatKind.f32.format = Ieee.single := rfl
/-- A power of two, hidden: so nothing counts it out. -/
def pw (k : Nat) : Nat := 2 ^ k
theorem pw_pos (k : Nat) : 0 < pw k := Nat.two_pow_pos k
theorem pw_add (a b : Nat) : pw (a + b) = pw a * pw b := Nat.pow_add 2 a b
theorem pw_le {a b : Nat} (h : a ≤ b) : pw a ≤ pw b := Nat.pow_le_pow_right (by decide) h
theorem pw_split (a b : Nat) {c : Nat} (h : a + b = c) : pw a * pw b = pw c := by subst h; exact (pw_add a b).symm
theorem pw_two (a : Nat) {c : Nat} (h : c = a + 1) : pw c = 2 * pw a := by subst h; rw [pw_add, Nat.mul_comm]; rfl
theorem rd_lep {V k : Nat} (h1 : 2978 ≤ k) (h2 : k ≤ 5023) (h : V ≤ pw k) : rd Ieee.double V ≤ pw k := rd_le h1 h2 h
theorem le_rdp {V k : Nat} (h1 : 2978 ≤ k) (h2 : k ≤ 5023) (h : pw k ≤ V) : pw k ≤ rd Ieee.double V := le_rd h1 h2 h
theorem dbl_writep (s : Bool) (m : Nat) {e : Int} (he : -4000 ≤ e) (h : cnt m e ≤ pw 5023) : Fin Ieee.double (Ieee.double.write (.number s m e)) s (rd Ieee.double (cnt m e)) := by
  unfold pw at h; exact dbl_write s m he h
theorem single_writep (s : Bool) (m : Nat) {e : Int} (he : -4000 ≤ e) (h : cnt m e ≤ pw 4127) : (Ieee.single.read (Ieee.single.write (.number s m e))).isInfinity = false := by
  unfold pw at h; exact single_write s m he h
theorem pw_lt {a b : Nat} (h : pw a < pw b) : a < b := Nat.lt_of_not_le fun hc => Nat.lt_irrefl _ (Nat.lt_of_lt_of_le h (pw_le hc))
theorem cnt_pw (m : Nat) (e : Int) (k c d : Nat) (h1 : (e + 4000).toNat = k) (h2 : m = d * 2 ^ c) : cnt m e = d * pw (c + k) := by
  unfold cnt; rw [h1, h2, pw_add, Nat.mul_assoc]; rfl
theorem cnt_pw2 (m : Nat) (e : Int) (k c d : Nat) {K : Nat} (hK : c + k = K) (h1 : (e + 4000).toNat = k) (h2 : m = d * 2 ^ c) : cnt m e = d * pw K := by
  subst hK; exact cnt_pw m e k c d h1 h2
/-- The double is finite, of this sign and magnitude. -/
abbrev Dbl (x : Nat) (s : Bool) (v : Nat) : Prop := Fin Ieee.double x s v
theorem fop_of {op : BinOp} {k : FloatKind} {x y r : Nat} (h : floatBits op k x y = some r) : fop op k x y = r := by simp [fop, h]
theorem d_add {x y : Nat} {s t : Bool} {v w : Nat} (hx : Dbl x s v) (hy : Dbl y t w) (hb : (sg s v + sg t w).natAbs ≤ pw 5023) :
    Dbl (fop .add .f64 x y) (if sg s v + sg t w = 0 then s && t else decide (sg s v + sg t w < 0)) (rd Ieee.double (sg s v + sg t w).natAbs) := by
  unfold pw at hb
  obtain ⟨r, h1, h2⟩ := dbl_add hx hy hb
  rw [fop_of (show floatBits .add .f64 x y = some r from h1)]; exact h2
theorem d_sub {x y : Nat} {s t : Bool} {v w : Nat} (hx : Dbl x s v) (hy : Dbl y t w) (hb : (sg s v + sg (!t) w).natAbs ≤ pw 5023) :
    Dbl (fop .sub .f64 x y) (if sg s v + sg (!t) w = 0 then s && !t else decide (sg s v + sg (!t) w < 0)) (rd Ieee.double (sg s v + sg (!t) w).natAbs) := by
  unfold pw at hb
  obtain ⟨r, h1, h2⟩ := dbl_sub hx hy hb
  rw [fop_of (show floatBits .sub .f64 x y = some r from h1)]; exact h2
theorem d_mul {x y : Nat} {s t : Bool} {v w : Nat} {a b : Nat} (hx : Dbl x s v) (hy : Dbl y t w) (ha : v ≤ pw a) (hb : w ≤ pw b) (h1 : 6978 ≤ a + b) (h2 : a + b ≤ 9023) :
    ∃ u, Dbl (fop .mul .f64 x y) (s ^^ t) u ∧ u ≤ pw (a + b - 4000) ∧ (v = 0 → u = 0) := by
  unfold pw at ha hb ⊢
  obtain ⟨r, u, h3, h4⟩ := fin_mul hx hy ha hb h1 h2
  rw [fop_of (show floatBits .mul .f64 x y = some r from h3)]; exact ⟨u, h4⟩
theorem d_div {x y : Nat} {s t : Bool} {v w : Nat} {k : Nat} (hx : Dbl x s v) (hy : Dbl y t w) (hw : w ≠ 0) (h : v * pw 4000 ≤ w * pw k) (h1 : 2978 ≤ k) (h2 : k ≤ 5023) :
    ∃ u, Dbl (fop .quo .f64 x y) (s ^^ t) u ∧ u ≤ pw k ∧ (v = 0 → u = 0) := by
  unfold pw at h ⊢
  obtain ⟨r, u, h3, h4⟩ := fin_div hx hy hw h h1 h2
  rw [fop_of (show floatBits .quo .f64 x y = some r from h3)]; exact ⟨u, h4⟩
theorem pow_mul_le {v w k : Nat} (h : v ≤ w * pw k) : v * pw 4000 ≤ w * pw (4000 + k) := by
  rw [pw_add 4000 k, Nat.mul_comm (pw 4000), ← Nat.mul_assoc]; exact Nat.mul_le_mul_right _ h
theorem d_nearest (n : Nat) (h0 : 1 ≤ n) (h1 : n ≤ 1024) : ∃ w, Dbl (FloatKind.f64.nearest n) false w ∧ pw 4000 ≤ w ∧ w ≤ pw 4010 := by
  have hc : cnt n 0 = n * pw 4000 := by have := cnt_pw n 0 4000 0 n rfl (by simp); rwa [Nat.zero_add] at this
  have h2 : cnt n 0 ≤ pw 4010 := by rw [hc, show (4010 : Nat) = 10 + 4000 from rfl, pw_add 10 4000]; exact Nat.mul_le_mul_right _ h1
  have hw := dbl_writep false n (e := 0) (by first | decide | omega) (Nat.le_trans h2 (pw_le (by decide)))
  refine ⟨_, ?_, le_rdp (by first | decide | omega) (by first | decide | omega) (V := cnt n 0) ?_, rd_lep (by first | decide | omega) (by first | decide | omega) h2⟩
  · have : FloatKind.f64.nearest (n : Int) = Ieee.double.write (.number false n 0) := by
      show Ieee.double.write (.number (decide ((n : Int) < 0)) (n : Int).natAbs 0) = _
      rw [show decide ((n : Int) < 0) = false from decide_eq_false (by first | decide | omega), Int.natAbs_natCast]
    rw [this]; exact hw
  · rw [hc]; exact Nat.le_mul_of_pos_left _ (by first | decide | omega)
/-- 1, 256. -/
def oneD : Nat := 4607182418800017408
theorem d_one : Dbl oneD false (pw 4000) :=
  ⟨4503599627370496, -52, by decide +kernel, by decide, (cnt_pw 4503599627370496 (-52) 3948 52 1 (by decide) (by decide)).trans (Nat.one_mul _)⟩
def c256 : Nat := 4643211215818981376
theorem d_256 : Dbl c256 false (pw 4008) :=
  ⟨4503599627370496, -44, by decide +kernel, by decide, (cnt_pw 4503599627370496 (-44) 3956 52 1 (by decide) (by decide)).trans (Nat.one_mul _)⟩

/-- A float64 that is made a float32 without more ado. -/
theorem over_fin {x : Nat} {s : Bool} {v : Nat} (h : Dbl x s v) (hv : v ≤ pw 4127) : fover .f64 x .f32 = false := by
  obtain ⟨m, e, h1, h2, rfl⟩ := h
  rw [dbl_lp] at h2
  have h3 := single_writep s m (e := e) (by first | decide | omega) hv
  unfold fover floatToFloatBits
  rw [if_neg (by decide)]
  have h4 : FloatKind.f64.decode x = .number s m e := h1
  rw [h4]
  have h5 : (FloatKind.f32.decode (FloatKind.f32.encode (.number s m e))).isInfinity = false := h3
  simp [Ieee.Datum.isNaN, h5]
theorem over_nan {x : Nat} (h : (FloatKind.f64.decode x).isNaN = true) : fover .f64 x .f32 = false := by simp [fover, h]
theorem over_inf {x : Nat} {s : Bool} (h : FloatKind.f64.decode x = .infinity s) : fover .f64 x .f32 = false := by
  unfold fover floatToFloatBits
  rw [if_neg (by decide), h]
  simp
/-- A float32 made a float64. -/
theorem d_widen {x : Nat} {s : Bool} {v : Nat} (h : Fin Ieee.single x s v) : Dbl (fconv .f32 x .f64) s v := by
  obtain ⟨m, e, h1, h2, rfl⟩ := h
  have h3 := widen_fin h1
  have ho := fover_widen x
  have h4 : FloatKind.f32.decode x = .number s m e := h1
  unfold fover at ho
  unfold fconv
  unfold floatToFloatBits at ho ⊢
  rw [if_neg (by decide), h4] at ho ⊢
  dsimp only at ho ⊢
  split at ho
  · simp [Ieee.Datum.isNaN] at ho
  · rename_i hi; rw [if_neg hi]; exact h3
theorem widen_inf {x : Nat} {s : Bool} (h : FloatKind.f32.decode x = .infinity s) : FloatKind.f64.decode (fconv .f32 x .f64) = .infinity s := by
  unfold fconv floatToFloatBits
  rw [if_neg (by decide), h]
  cases s <;> decide +kernel
theorem widen_nan {x : Nat} (h : (FloatKind.f32.decode x).isNaN = true) : fconv .f32 x .f64 = nanB .f64 := by
  obtain ⟨s, f, hd⟩ := eq_nan_of_isNaN h
  unfold fconv floatToFloatBits
  rw [if_neg (by decide), hd]; rfl
/-- What a float32 is. -/
theorem sgl_cases (x : Nat) : (FloatKind.f32.decode x).isNaN = true ∨ (∃ s, FloatKind.f32.decode x = .infinity s) ∨ ∃ s v, Fin Ieee.single x s v := by
  cases h : FloatKind.f32.decode x with
  | nan s f => exact .inl rfl
  | infinity s => exact .inr (.inl ⟨s, rfl⟩)
  | number s m e =>
    have h' : Ieee.single.read x = .number s m e := h
    have := sgl_read h'
    exact .inr (.inr ⟨s, _, m, e, h', by rw [show (Ieee.single).leastPlace = -149 from by decide]; omega, rfl⟩)
/-- Made wider, two numbers stand to each other as before. -/
theorem order_widen (x y : Nat) : FloatKind.f64.format.order (fconv .f32 x .f64) (fconv .f32 y .f64) = FloatKind.f32.format.order x y := by
  rcases sgl_cases x with hx | ⟨s, hx⟩ | ⟨s, v, hx⟩
  · rw [widen_nan hx]
    unfold Ieee.Format.order
    rw [decode_eq, decode_eq, decode_eq, decode_eq, order_nan_l hx, order_nan_l (isNaN_nanB _)]
  · rcases sgl_cases y with hy | ⟨t, hy⟩ | ⟨t, w, hy⟩
    · rw [widen_nan hy]
      unfold Ieee.Format.order
      rw [decode_eq, decode_eq, decode_eq, decode_eq, order_nan_r hy, order_nan_r (isNaN_nanB _)]
    · unfold Ieee.Format.order
      rw [decode_eq, decode_eq, decode_eq, decode_eq, widen_inf hx, widen_inf hy, hx, hy]
    · obtain ⟨m, e, h1, _⟩ := d_widen hy
      obtain ⟨m', e', h2, _⟩ := hy
      have h1' : FloatKind.f64.decode (fconv .f32 y .f64) = .number t m e := h1
      have h2' : FloatKind.f32.decode y = .number t m' e' := h2
      unfold Ieee.Format.order
      rw [decode_eq, decode_eq, decode_eq, decode_eq, widen_inf hx, hx, h1', h2']; rfl
  · rcases sgl_cases y with hy | ⟨t, hy⟩ | ⟨t, w, hy⟩
    · rw [widen_nan hy]
      unfold Ieee.Format.order
      rw [decode_eq, decode_eq, decode_eq, decode_eq, order_nan_r hy, order_nan_r (isNaN_nanB _)]
    · obtain ⟨m, e, h1, _⟩ := d_widen hx
      obtain ⟨m', e', h2, _⟩ := hx
      have h1' : FloatKind.f64.decode (fconv .f32 x .f64) = .number s m e := h1
      have h2' : FloatKind.f32.decode x = .number s m' e' := h2
      unfold Ieee.Format.order
      rw [decode_eq, decode_eq, decode_eq, decode_eq, widen_inf hy, hy, h1', h2']; rfl
    · exact (fin_order ok_double (d_widen hx) (d_widen hy)).trans (fin_order ok_single hx hy).symm

/-- e to the power of a number, as the program makes it. -/
def expStep (t p k : Nat) : Nat := fop .add .f64 oneD (fop .quo .f64 (fop .mul .f64 t p) k)
def expP (t : Nat) : Nat → Nat
  | 0 => oneD
  | i + 1 => expStep t (expP t i) (FloatKind.f64.nearest ((12 - i : Nat) : Int))
def sqrD (p : Nat) : Nat → Nat
  | 0 => p
  | i + 1 => fop .mul .f64 (sqrD p i) (sqrD p i)
def expD (x : Nat) : Nat := sqrD (expP (fop .quo .f64 x c256) 12) 8

theorem expP_neg {t : Nat} {s : Bool} {v : Nat} (ht : Dbl t s v) (hv : v ≤ pw 4000) (hs : s = true ∨ v = 0) : ∀ i, i ≤ 12 → ∃ u, Dbl (expP t i) false u ∧ u ≤ pw 4000 := by
  intro i
  induction i with
  | zero => intro _; exact ⟨_, d_one, Nat.le_refl _⟩
  | succ i ih =>
    intro hi
    obtain ⟨u, hu, hu2⟩ := ih (by first | decide | omega)
    obtain ⟨u1, h1, h2, h3⟩ := d_mul ht hu hv hu2 (by first | decide | omega) (by first | decide | omega)
    obtain ⟨w, h4, h5, _⟩ := d_nearest (12 - i) (by first | decide | omega) (by first | decide | omega)
    have hw0 : w ≠ 0 := by have := pw_pos 4000; omega
    obtain ⟨u2, h6, h7, h8⟩ := d_div h1 h4 hw0 (pow_mul_le (k := 0) (by rw [show pw 0 = 1 from rfl, Nat.mul_one]; exact Nat.le_trans h2 h5)) (by first | decide | omega) (by first | decide | omega)
    have h7' : u2 ≤ pw 4000 := h7
    have hss : ((s ^^ false) ^^ false) = s := by cases s <;> rfl
    rw [hss] at h6
    have hp := pw_pos 4000
    have hS : sg false (pw 4000) + sg s u2 = ((pw 4000 - u2 : Nat) : Int) := by
      unfold sg
      rcases hs with rfl | hv0
      · simp only [if_true]; rw [Int.ofNat_sub h7']; rfl
      · have := h8 (h3 hv0); subst this; cases s <;> simp
    have hsum := d_add d_one h6 (by rw [hS, Int.natAbs_natCast]; exact Nat.le_trans (Nat.sub_le _ _) (pw_le (by decide)))
    rw [hS, Int.natAbs_natCast] at hsum
    have hneg : (if (((pw 4000 - u2 : Nat) : Int) = 0) then false && s else decide (((pw 4000 - u2 : Nat) : Int) < 0)) = false := by
      split
      · rfl
      · exact decide_eq_false (by exact Int.not_lt.2 (Int.natCast_nonneg _))
    rw [hneg] at hsum
    exact ⟨_, hsum, rd_lep (by first | decide | omega) (by first | decide | omega) (Nat.sub_le _ _)⟩
theorem expP_mid {t : Nat} {s : Bool} {v : Nat} (ht : Dbl t s v) (hv : v ≤ pw 3998) : ∀ i, i ≤ 12 → ∃ u, Dbl (expP t i) false u ∧ u ≤ pw 4001 := by
  intro i
  induction i with
  | zero => intro _; exact ⟨_, d_one, pw_le (by decide)⟩
  | succ i ih =>
    intro hi
    obtain ⟨u, hu, hu2⟩ := ih (by first | decide | omega)
    obtain ⟨u1, h1, h2, h3⟩ := d_mul ht hu hv hu2 (by first | decide | omega) (by first | decide | omega)
    obtain ⟨w, h4, h5, _⟩ := d_nearest (12 - i) (by first | decide | omega) (by first | decide | omega)
    have hw0 : w ≠ 0 := by have := pw_pos 4000; omega
    have h2' : u1 ≤ pw 3999 := h2
    have h9 : u1 * pw 4000 ≤ w * pw 3999 := by
      rw [Nat.mul_comm w]; exact Nat.mul_le_mul h2' h5
    obtain ⟨u2, h6, h7, h8⟩ := d_div h1 h4 hw0 h9 (by first | decide | omega) (by first | decide | omega)
    have hss : ((s ^^ false) ^^ false) = s := by cases s <;> rfl
    rw [hss] at h6
    have hp : pw 4000 = 2 * pw 3999 := pw_two 3999 rfl
    have hp2 : pw 4001 = 2 * pw 4000 := pw_two 4000 rfl
    have hpos := pw_pos 3999
    obtain ⟨T, hT, hT1⟩ : ∃ T : Nat, sg false (pw 4000) + sg s u2 = (T : Int) ∧ T ≤ pw 4001 := by
      unfold sg
      cases s
      · exact ⟨pw 4000 + u2, by simp, by rw [hp2]; omega⟩
      · refine ⟨pw 4000 - u2, ?_, by rw [hp2]; omega⟩
        rw [Int.ofNat_sub (by first | decide | omega)]; simp [Int.sub_eq_add_neg]
    have hsum := d_add d_one h6 (by rw [hT, Int.natAbs_natCast]; exact Nat.le_trans hT1 (pw_le (by decide)))
    rw [hT, Int.natAbs_natCast] at hsum
    have hneg : (if ((T : Int) = 0) then false && s else decide ((T : Int) < 0)) = false := by
      split
      · rfl
      · exact decide_eq_false (by exact Int.not_lt.2 (Int.natCast_nonneg _))
    rw [hneg] at hsum
    exact ⟨_, hsum, rd_lep (by first | decide | omega) (by first | decide | omega) hT1⟩
theorem sqr_le {p : Nat} {u : Nat} (hp : Dbl p false u) (hu : u ≤ pw 4000) : ∀ i, ∃ u, Dbl (sqrD p i) false u ∧ u ≤ pw 4000 := by
  intro i
  induction i with
  | zero => exact ⟨u, hp, hu⟩
  | succ i ih =>
    obtain ⟨u, h1, h2⟩ := ih
    obtain ⟨u1, h3, h4, _⟩ := d_mul h1 h1 h2 h2 (by first | decide | omega) (by first | decide | omega)
    exact ⟨u1, h3, h4⟩
theorem sqr_gt {p : Nat} {u : Nat} (hp : Dbl p false u) (hu : u ≤ pw 4001) : ∀ i, i ≤ 8 → ∃ u, Dbl (sqrD p i) false u ∧ u ≤ pw (4000 + 2 ^ i) := by
  intro i
  induction i with
  | zero => intro _; exact ⟨u, hp, hu⟩
  | succ i ih =>
    intro hi
    obtain ⟨u, h1, h2⟩ := ih (by first | decide | omega)
    have h9 : 2 ^ (i + 1) = 2 ^ i + 2 ^ i := by rw [Nat.pow_succ]; omega
    rw [h9]
    have hq : 2 ^ i ≤ 128 := by have := Nat.pow_le_pow_right (n := 2) (by decide) (show i ≤ 7 by omega); exact this
    generalize 2 ^ i = q at *
    obtain ⟨u1, h3, h4, _⟩ := d_mul h1 h1 h2 h2 (by first | decide | omega) (by first | decide | omega)
    refine ⟨u1, h3, ?_⟩
    rw [show 4000 + q + (4000 + q) - 4000 = 4000 + (q + q) by omega] at h4
    exact h4
/-- Of a number from -256 to 0. -/
theorem exp_neg {x : Nat} {s : Bool} {v : Nat} (hx : Dbl x s v) (hv : v ≤ pw 4008) (hs : s = true ∨ v = 0) : ∃ u, Dbl (expD x) false u ∧ u ≤ pw 4000 := by
  obtain ⟨u, h1, h2, h3⟩ := d_div hx d_256 (Nat.ne_of_gt (pw_pos _)) (k := 4000) (Nat.mul_le_mul_right _ hv) (by first | decide | omega) (by first | decide | omega)
  have hss : (s ^^ false) = s := by cases s <;> rfl
  rw [hss] at h1
  obtain ⟨p, h4, h5⟩ := expP_neg h1 h2 (hs.imp id h3) 12 (by first | decide | omega)
  exact sqr_le h4 h5 8
theorem exp_mid {x : Nat} {s : Bool} {v : Nat} (hx : Dbl x s v) (hv : v ≤ pw 4006) : ∃ u, Dbl (expD x) false u ∧ u ≤ pw 4256 := by
  have h9 : v * pw 4000 ≤ pw 4008 * pw 3998 := by
    have : pw 4008 * pw 3998 = pw 4006 * pw 4000 := (pw_split 4008 3998 (c := 8006) rfl).trans (pw_split 4006 4000 (c := 8006) rfl).symm
    rw [this]; exact Nat.mul_le_mul_right _ hv
  obtain ⟨u, h1, h2, h3⟩ := d_div hx d_256 (Nat.ne_of_gt (pw_pos _)) h9 (by first | decide | omega) (by first | decide | omega)
  obtain ⟨p, h4, h5⟩ := expP_mid h1 h2 12 (by first | decide | omega)
  exact sqr_gt h4 h5 8 (by first | decide | omega)
def tanhD (p : Nat) : Nat := fop .quo .f64 (fop .sub .f64 p oneD) (fop .add .f64 p oneD)
theorem tanh_le {p : Nat} {u : Nat} (hp : Dbl p false u) (hu : u ≤ pw 4256) : ∃ s v, Dbl (tanhD p) s v ∧ v ≤ pw 4000 := by
  have hpos := pw_pos 4000
  have h0 : u + pw 4000 ≤ pw 4257 := by
    have : pw 4257 = 2 * pw 4256 := pw_two 4256 rfl
    have h2 : pw 4000 ≤ pw 4256 := pw_le (by decide)
    omega
  have h57 : pw 4257 ≤ pw 5023 := pw_le (by decide)
  have e1 : sg false u + sg false (pw 4000) = ((u + pw 4000 : Nat) : Int) := by simp [sg]
  have e2 : sg false u + sg (!false) (pw 4000) = (u : Int) - ((pw 4000 : Nat) : Int) := by simp [sg, Int.sub_eq_add_neg]
  have a := d_add hp d_one (by rw [e1, Int.natAbs_natCast]; exact Nat.le_trans h0 h57)
  have h3 : ((u : Int) - ((pw 4000 : Nat) : Int)).natAbs ≤ u + pw 4000 := by omega
  have b := d_sub hp d_one (by rw [e2]; exact Nat.le_trans h3 (Nat.le_trans h0 h57))
  rw [e1, Int.natAbs_natCast] at a
  rw [e2] at b
  have h4 : pw 4000 ≤ rd Ieee.double (u + pw 4000) := le_rdp (by first | decide | omega) (by first | decide | omega) (Nat.le_add_left _ _)
  have h5 := rd_mono Ieee.double h3
  obtain ⟨r, h6, h7, _⟩ := d_div b a (by first | decide | omega) (k := 4000) (Nat.mul_le_mul_right _ h5) (by first | decide | omega) (by first | decide | omega)
  exact ⟨_, _, h6, h7⟩
theorem expP_nan {t : Nat} (ht : (FloatKind.f64.decode t).isNaN = true) (i : Nat) : expP t (i + 1) = nanB .f64 := by
  show fop .add .f64 oneD (fop .quo .f64 (fop .mul .f64 t _) _) = _
  have h1 : ∀ y, fop .mul .f64 t y = nanB .f64 := fun y => by simp [fop, floatBits_nan_l ht]
  have h2 : ∀ y, fop .quo .f64 (nanB .f64) y = nanB .f64 := fun y => by simp [fop, floatBits_nan_l (isNaN_nanB .f64)]
  have h3 : ∀ y, fop .add .f64 y (nanB .f64) = nanB .f64 := fun y => by simp [fop, floatBits_nan_r (isNaN_nanB .f64)]
  rw [h1, h2, h3]
theorem expD_nan {x : Nat} (hx : (FloatKind.f64.decode x).isNaN = true) : expD x = nanB .f64 := by
  have h1 : ∀ y, fop .quo .f64 x y = nanB .f64 := fun y => by simp [fop, floatBits_nan_l hx]
  have h2 : ∀ y, fop .mul .f64 (nanB .f64) y = nanB .f64 := fun y => by simp [fop, floatBits_nan_l (isNaN_nanB .f64)]
  unfold expD
  rw [h1, expP_nan (isNaN_nanB .f64) 11]
  simp only [sqrD, h2]
end Go.Proofs.Ytlimabbeaimdgaa
/- Singles: a number less another one that it is not greater than; e to the power of it; square roots; hyperbolic tangents. -/
namespace Go.Proofs.Ytlimabbeaimdgaa
set_option linter.unusedSimpArgs false
set_option linter.unusedVariables false
open Rnd

/-- A single that is not above 0, or no number. -/
def NonPos (y : Nat) : Prop := (FloatKind.f32.decode y).isNaN = true ∨ FloatKind.f32.decode y = .infinity true ∨ ∃ s v, Fin Ieee.single y s v ∧ (s = true ∨ v = 0)
theorem read_inf (s : Bool) : FloatKind.f32.decode (Ieee.single.write (.infinity s)) = .infinity s := by cases s <;> decide +kernel
theorem read_inf64 (s : Bool) : FloatKind.f64.decode (Ieee.double.write (.infinity s)) = .infinity s := by cases s <;> decide +kernel
theorem sgl_write (s : Bool) (m : Nat) {e : Int} (he : -4000 ≤ e) : Ieee.single.write (.number s m e) = Ieee.single.write (.infinity s) ∨ ∃ v, Fin Ieee.single (Ieee.single.write (.number s m e)) s v ∧ (m = 0 → v = 0) := by
  have h1 := nearest_cnt Ieee.single ok_single s m he
  have h2 : rung Ieee.single (Lo Ieee.single) (cnt m e) ≤ (Ieee.single).infRung := by
    unfold rung; split
    · exact Nat.zero_le _
    · exact Nat.min_le_right _ _
  rcases Nat.lt_or_eq_of_le h2 with h | h
  · refine .inr ⟨_, fin_write Ieee.single ok_single s m he h, ?_⟩
    rintro rfl
    unfold cnt
    rw [Nat.zero_mul]; exact rd_zero _
  · left
    show (Ieee.single).nearest s m e = _
    rw [h1, h]; rfl
theorem nan_pos {y : Nat} (h : (FloatKind.f32.decode y).isNaN = true) : NonPos y := .inl h
theorem fop_inf {x m : Nat} {s t u : Bool} {d e : Ieee.Datum} (hx : FloatKind.f32.decode x = d) (hm : FloatKind.f32.decode m = e) (h : d.sum e.opposite = some (.infinity u)) : FloatKind.f32.decode (fop .sub .f32 x m) = .infinity u := by
  subst hx hm
  rw [fop_of (r := Ieee.single.write (.infinity u)) ?_]
  · exact read_inf u
  · show ((FloatKind.f32.decode x).sum (FloatKind.f32.decode m).opposite).map _ = _
    rw [h]; rfl
theorem fop_none {x m : Nat} {d e : Ieee.Datum} (hx : FloatKind.f32.decode x = d) (hm : FloatKind.f32.decode m = e) (h : d.sum e.opposite = none) : NonPos (fop .sub .f32 x m) := by
  subst hx hm
  left
  have : floatBits .sub .f32 x m = none := by
    show ((FloatKind.f32.decode x).sum (FloatKind.f32.decode m).opposite).map _ = _
    rw [h]; rfl
  unfold fop
  rw [this]
  exact isNaN_nanB .f32
theorem sub_neg {x m : Nat} (h : fgt .f32 x m = false) : NonPos (fop .sub .f32 x m) := by
  have ho : ¬ (FloatKind.f32.decode x).order (FloatKind.f32.decode m) = some .gt := by
    intro hc
    have : FloatKind.f32.format.order x m = some .gt := hc
    unfold fgt at h; rw [this] at h; cases h
  rcases sgl_cases x with hx | ⟨s, hx⟩ | ⟨s, v, hx⟩
  · exact fop_none rfl rfl (sum_nan_l hx)
  · rcases sgl_cases m with hm | ⟨t, hm⟩ | ⟨t, w, hm⟩
    · exact fop_none rfl rfl (sum_nan_r (opp_nan hm))
    · rw [hx, hm] at ho
      cases s <;> cases t
      · exact fop_none hx hm rfl
      · exact absurd rfl ho
      · exact .inr (.inl (fop_inf (s := true) (t := true) hx hm rfl))
      · exact fop_none hx hm rfl
    · obtain ⟨n, j, h3, h4, rfl⟩ := hm
      have hm : FloatKind.f32.decode m = .number t n j := h3
      rw [hx, hm] at ho
      cases s
      · exact absurd rfl ho
      · exact .inr (.inl (fop_inf (s := true) (t := true) hx hm rfl))
  · obtain ⟨k, i, h1, h2, rfl⟩ := hx
    have hx : FloatKind.f32.decode x = .number s k i := h1
    rcases sgl_cases m with hm | ⟨t, hm⟩ | ⟨t, w, hm⟩
    · exact fop_none rfl rfl (sum_nan_r (opp_nan hm))
    · rw [hx, hm] at ho
      cases t
      · exact .inr (.inl (fop_inf (s := true) (t := true) hx hm rfl))
      · exact absurd rfl ho
    · obtain ⟨n, j, h3, h4, rfl⟩ := hm
      have hm : FloatKind.f32.decode m = .number t n j := h3
      rw [hx, hm] at ho
      have hlp : (Ieee.single).leastPlace = -149 := by decide
      rw [hlp] at h2 h4
      have hT : Ieee.signed s k (i - min i j).toNat + Ieee.signed (!t) n (j - min i j).toNat ≤ 0 := by
        simp only [Ieee.Datum.order, Option.some.injEq] at ho
        have e1 : Ieee.signed (!t) n (j - min i j).toNat = - Ieee.signed t n (j - min i j).toNat := by
          unfold Ieee.signed; cases t <;> simp
        rw [e1]
        generalize Ieee.signed s k (i - min i j).toNat = A at *
        generalize Ieee.signed t n (j - min i j).toNat = B at *
        refine Int.not_lt.1 fun hlt => ho ?_
        exact Int.compare_eq_gt.2 (by omega)
      have hr : fop .sub .f32 x m = Ieee.single.write (.number (if Ieee.signed s k (i - min i j).toNat + Ieee.signed (!t) n (j - min i j).toNat = 0 then s && !t else decide (Ieee.signed s k (i - min i j).toNat + Ieee.signed (!t) n (j - min i j).toNat < 0)) (Ieee.signed s k (i - min i j).toNat + Ieee.signed (!t) n (j - min i j).toNat).natAbs (min i j)) := by
        refine fop_of ?_
        show ((FloatKind.f32.decode x).sum (FloatKind.f32.decode m).opposite).map _ = _
        rw [hx, hm]; rfl
      rw [hr]
      generalize Ieee.signed s k (i - min i j).toNat + Ieee.signed (!t) n (j - min i j).toNat = T at *
      rcases sgl_write (if T = 0 then s && !t else decide (T < 0)) T.natAbs (e := min i j) (by omega) with h5 | ⟨v, h5, h6⟩
      · by_cases h0 : T = 0
        · subst h0
          exfalso
          have h7 := congrArg (FloatKind.f32.decode) h5
          rw [read_inf] at h7
          have h8 := single_writep (if (0 : Int) = 0 then s && !t else decide ((0 : Int) < 0)) 0 (e := min i j) (by omega) (by unfold cnt; rw [Nat.zero_mul]; exact Nat.zero_le _)
          have h9 : FloatKind.f32.decode (Ieee.single.write (.number (if (0 : Int) = 0 then s && !t else decide ((0 : Int) < 0)) 0 (min i j))) = Ieee.single.read (Ieee.single.write (.number (if (0 : Int) = 0 then s && !t else decide ((0 : Int) < 0)) 0 (min i j))) := rfl
          rw [← h9] at h8
          rw [show (0 : Int).natAbs = 0 from rfl] at h7
          rw [h7] at h8; cases h8
        · rw [if_neg h0, decide_eq_true (by omega)] at h5 ⊢
          rw [h5]
          exact .inr (.inl (read_inf true))
      · refine .inr (.inr ⟨_, v, h5, ?_⟩)
        by_cases h0 : T = 0
        · right; exact h6 (by subst h0; rfl)
        · left; rw [if_neg h0, decide_eq_true (by omega)]

/-- The bounds that the program asks. -/
def c200 : Nat := 1128792064
def n200 : Nat := 3276275712
def c20 : Nat := 1101004800
def n20 : Nat := 3248488448
theorem fin_c (x : Nat) (s : Bool) (m : Nat) (e : Int) (h : Ieee.single.read x = .number s m e) (he : -149 ≤ e) : Fin Ieee.single x s (cnt m e) := ⟨m, e, h, by rw [show (Ieee.single).leastPlace = -149 from by decide]; exact he, rfl⟩
theorem c200_pw : cnt 13107200 (-16) = 200 * pw 4000 := cnt_pw2 13107200 (-16) 3984 16 200 rfl (by decide) (by decide)
theorem c20_pw : cnt 10485760 (-19) = 20 * pw 4000 := cnt_pw2 10485760 (-19) 3981 19 20 rfl (by decide) (by decide)
theorem f_c200 : Fin Ieee.single c200 false (200 * pw 4000) := by
  rw [← c200_pw]; exact fin_c c200 false 13107200 (-16) (by decide +kernel) (by decide)
theorem f_n200 : Fin Ieee.single n200 true (200 * pw 4000) := by
  rw [← c200_pw]; exact fin_c n200 true 13107200 (-16) (by decide +kernel) (by decide)
theorem f_c20 : Fin Ieee.single c20 false (20 * pw 4000) := by
  rw [← c20_pw]; exact fin_c c20 false 10485760 (-19) (by decide +kernel) (by decide)
theorem f_n20 : Fin Ieee.single n20 true (20 * pw 4000) := by
  rw [← c20_pw]; exact fin_c n20 true 10485760 (-19) (by decide +kernel) (by decide)
theorem pow_le_of {c k : Nat} (h : c ≤ 2 ^ k) : c * pw 4000 ≤ pw (4000 + k) := by
  rw [Nat.add_comm 4000 k, pw_add k 4000]; exact Nat.mul_le_mul_right _ h
theorem not_lt_fin {x c : Nat} {s : Bool} {v C : Nat} (hx : Fin Ieee.single x s v) (hc : Fin Ieee.single c true C) (h : flt .f32 x c = false) : s = false ∨ v ≤ C := by
  have ho : Ieee.single.order x c = some (compare (sg s v) (sg true C)) := fin_order ok_single hx hc
  have ho' : FloatKind.f32.format.order x c = some (compare (sg s v) (sg true C)) := ho
  unfold flt at h
  rw [ho'] at h
  cases s
  · exact .inl rfl
  · right
    refine Nat.le_of_not_lt fun hlt => ?_
    have : compare (sg true v) (sg true C) = .lt := Int.compare_eq_lt.2 (by unfold sg; simp; exact hlt)
    rw [this] at h; cases h
theorem not_gt_fin {x c : Nat} {s : Bool} {v C : Nat} (hx : Fin Ieee.single x s v) (hc : Fin Ieee.single c false C) (h : fgt .f32 x c = false) : s = true ∨ v ≤ C := by
  have ho : Ieee.single.order x c = some (compare (sg s v) (sg false C)) := fin_order ok_single hx hc
  have ho' : FloatKind.f32.format.order x c = some (compare (sg s v) (sg false C)) := ho
  unfold fgt at h
  rw [ho'] at h
  cases s
  · right
    refine Nat.le_of_not_lt fun hlt => ?_
    have : compare (sg false v) (sg false C) = .gt := Int.compare_eq_gt.2 (by unfold sg; simp; exact hlt)
    rw [this] at h; cases h
  · exact .inl rfl

/-- e to the power of a single. -/
def expF (x : Nat) : Nat := if fgt .f32 x c200 then 2139095040 else if flt .f32 x n200 then 0 else fconv .f64 (expD (fconv .f32 x .f64)) .f32
theorem inf_lt {x c : Nat} {C : Nat} {s : Bool} (hx : FloatKind.f32.decode x = .infinity true) (hc : Fin Ieee.single c s C) : flt .f32 x c = true := by
  obtain ⟨m, e, h1, h2, rfl⟩ := hc
  have hc : FloatKind.f32.decode c = .number s m e := h1
  have : FloatKind.f32.format.order x c = some .lt := by
    show (FloatKind.f32.decode x).order (FloatKind.f32.decode c) = _
    rw [hx, hc]; rfl
  unfold flt; rw [this]; rfl
theorem inf_gt {x c : Nat} {C : Nat} {s : Bool} (hx : FloatKind.f32.decode x = .infinity false) (hc : Fin Ieee.single c s C) : fgt .f32 x c = true := by
  obtain ⟨m, e, h1, h2, rfl⟩ := hc
  have hc : FloatKind.f32.decode c = .number s m e := h1
  have : FloatKind.f32.format.order x c = some .gt := by
    show (FloatKind.f32.decode x).order (FloatKind.f32.decode c) = _
    rw [hx, hc]; rfl
  unfold fgt; rw [this]; rfl
theorem exp_over {x : Nat} (h : NonPos x) (h2 : flt .f32 x n200 = false) : fover .f64 (expD (fconv .f32 x .f64)) .f32 = false := by
  rcases h with h | h | ⟨s, v, h, h3⟩
  · rw [widen_nan h, expD_nan (isNaN_nanB .f64)]; exact over_nan (isNaN_nanB .f64)
  · rw [inf_lt h f_n200] at h2; cases h2
  · have hv : v ≤ pw 4008 := by
      rcases h3 with rfl | rfl
      · rcases not_lt_fin h f_n200 h2 with h4 | h4
        · cases h4
        · exact Nat.le_trans h4 (pow_le_of (k := 8) (by decide))
      · exact Nat.zero_le _
    obtain ⟨u, h5, h6⟩ := exp_neg (d_widen h) hv h3
    exact over_fin h5 (Nat.le_trans h6 (pw_le (by decide)))
theorem nonpos_gt {x : Nat} (h : NonPos x) : fgt .f32 x c200 = false := by
  rcases h with h | h | ⟨s, v, h, h3⟩
  · unfold fgt
    have : FloatKind.f32.format.order x c200 = none := by
      show (FloatKind.f32.decode x).order _ = _
      exact order_nan_l h
    rw [this]; rfl
  · unfold fgt
    have : FloatKind.f32.format.order x c200 = some .lt := by
      show (FloatKind.f32.decode x).order (FloatKind.f32.decode c200) = _
      rw [h, show FloatKind.f32.decode c200 = .number false 13107200 (-16) from by decide +kernel]; rfl
    rw [this]; rfl
  · have ho : FloatKind.f32.format.order x c200 = some (compare (sg s v) (sg false (200 * pw 4000))) := fin_order ok_single h f_c200
    unfold fgt
    rw [ho]
    have hp := pw_pos 4000
    have : compare (sg s v) (sg false (200 * pw 4000)) = .lt := by
      refine Int.compare_eq_lt.2 ?_
      generalize pw 4000 = P at *
      unfold sg
      rcases h3 with rfl | rfl
      · simp only [if_true, Bool.false_eq_true, if_false]; omega
      · cases s <;> simp <;> omega
    rw [this]; rfl

/-- Hyperbolic tangent of a single. -/
def twoD : Nat := 4611686018427387904
theorem d_two : Dbl twoD false (pw 4001) := by
  exact ⟨4503599627370496, -51, by decide +kernel, by decide, (cnt_pw 4503599627370496 (-51) 3949 52 1 (by decide) (by decide)).trans (Nat.one_mul _)⟩
def tanW (x : Nat) : Nat := fop .mul .f64 twoD (fconv .f32 x .f64)
def tanF (x : Nat) : Nat := if fgt .f32 x c20 then 1065353216 else if flt .f32 x n20 then 3212836864 else fconv .f64 (tanhD (expD (tanW x))) .f32
theorem tanW_cases {x : Nat} (h1 : fgt .f32 x c20 = false) (h2 : flt .f32 x n20 = false) : tanW x = nanB .f64 ∨ ∃ s v, Dbl (tanW x) s v ∧ v ≤ pw 4006 := by
  rcases sgl_cases x with hx | ⟨s, hx⟩ | ⟨s, v, hx⟩
  · left
    unfold tanW
    rw [widen_nan hx]
    simp [fop, floatBits_nan_r (isNaN_nanB .f64)]
  · exfalso
    cases s
    · rw [inf_gt hx f_c20] at h1; cases h1
    · rw [inf_lt hx f_n20] at h2; cases h2
  · right
    have hv : v ≤ 20 * pw 4000 := by
      rcases not_lt_fin hx f_n20 h2 with rfl | h
      · rcases not_gt_fin hx f_c20 h1 with h | h
        · cases h
        · exact h
      · exact h
    obtain ⟨u, h3, h4, _⟩ := d_mul d_two (d_widen hx) (Nat.le_refl _) (Nat.le_trans hv (pow_le_of (k := 5) (by decide))) (by omega) (by omega)
    exact ⟨_, u, h3, h4⟩
theorem tanh_over {x : Nat} (h1 : fgt .f32 x c20 = false) (h2 : flt .f32 x n20 = false) : fover .f64 (tanhD (expD (tanW x))) .f32 = false := by
  rcases tanW_cases h1 h2 with h | ⟨s, v, h, hv⟩
  · rw [h, expD_nan (isNaN_nanB .f64)]
    refine over_nan ?_
    unfold tanhD
    have : fop .sub .f64 (nanB .f64) oneD = nanB .f64 := by simp [fop, floatBits_nan_l (isNaN_nanB .f64)]
    rw [this]
    simp [fop, floatBits_nan_l (isNaN_nanB .f64), isNaN_nanB]
  · obtain ⟨u, h3, h4⟩ := exp_mid h hv
    obtain ⟨s, r, h5, h6⟩ := tanh_le h3 h4
    exact over_fin h5 (Nat.le_trans h6 (pw_le (by decide)))
/-- The wide numbers that the wide power is asked of. -/
def C200 : Nat := 4641240890982006784
def N200 : Nat := 13864612927836782592
theorem C200_eq : fconv .f32 c200 .f64 = C200 := by decide +kernel
theorem N200_eq : fconv .f32 n200 .f64 = N200 := by decide +kernel
theorem gt_widen (x : Nat) : fgt .f64 (fconv .f32 x .f64) C200 = fgt .f32 x c200 := by unfold fgt; rw [← C200_eq, order_widen]
theorem lt_widen (x : Nat) : flt .f64 (fconv .f32 x .f64) N200 = flt .f32 x n200 := by unfold flt; rw [← N200_eq, order_widen]
theorem tanW_gt {x : Nat} (h1 : fgt .f32 x c20 = false) (h2 : flt .f32 x n20 = false) : fgt .f64 (tanW x) C200 = false ∧ flt .f64 (tanW x) N200 = false := by
  rcases tanW_cases h1 h2 with h | ⟨s, v, h, hv⟩
  · rw [h]; decide +kernel
  · have hC := d_widen f_c200
    have hN := d_widen f_n200
    rw [C200_eq] at hC
    rw [N200_eq] at hN
    have o1 : FloatKind.f64.format.order (tanW x) C200 = some (compare (sg s v) (sg false (200 * pw 4000))) := fin_order ok_double h hC
    have o2 : FloatKind.f64.format.order (tanW x) N200 = some (compare (sg s v) (sg true (200 * pw 4000))) := fin_order ok_double h hN
    have hv2 : v ≤ 64 * pw 4000 := by
      have : (64 : Nat) * pw 4000 = pw 4006 := by rw [show (64 : Nat) = pw 6 from rfl]; exact pw_split 6 4000 rfl
      rw [this]; exact hv
    have hp := pw_pos 4000
    unfold fgt flt
    rw [o1, o2]
    generalize pw 4000 = P at *
    have e1 : compare (sg s v) (sg false (200 * P)) = .lt := Int.compare_eq_lt.2 (by unfold sg; cases s <;> simp <;> omega)
    have e2 : compare (sg s v) (sg true (200 * P)) = .gt := Int.compare_eq_gt.2 (by unfold sg; cases s <;> simp <;> omega)
    rw [e1, e2]; exact ⟨rfl, rfl⟩

/-- Square roots. -/
def fsqrt (k : FloatKind) (x : Nat) : Nat := (k.format.sqrt x).getD (nanB k)
theorem rootFrom_lt (n : Nat) : ∀ k r, Ieee.Datum.rootFrom n k r < r + 2 ^ k := by
  intro k
  induction k with
  | zero => intro r; show r < r + 1; omega
  | succ k ih =>
    intro r
    show Ieee.Datum.rootFrom n k (if (r + 1 <<< k) * (r + 1 <<< k) ≤ n then r + 1 <<< k else r) < _
    have h1 : 1 <<< k = 2 ^ k := by rw [Nat.shiftLeft_eq, Nat.one_mul]
    rw [h1, Nat.pow_succ]
    have := ih (if (r + 2 ^ k) * (r + 2 ^ k) ≤ n then r + 2 ^ k else r)
    by_cases hc : (r + 2 ^ k) * (r + 2 ^ k) ≤ n
    · rw [if_pos hc] at this ⊢; omega
    · rw [if_neg hc] at this ⊢; omega
theorem sqrt_over (x : Nat) : fover .f64 (fsqrt .f64 (fconv .f32 x .f64)) .f32 = false := by
  have hN : ∀ y : Nat, FloatKind.f64.format.sqrt y = none → fover .f64 (fsqrt .f64 y) .f32 = false := fun y h => by
    unfold fsqrt; rw [h]; exact over_nan (isNaN_nanB .f64)
  rcases sgl_cases x with hx | ⟨s, hx⟩ | ⟨s, v, hx⟩
  · rw [widen_nan hx]
    exact hN _ (by decide +kernel)
  · have h := widen_inf hx
    generalize fconv .f32 x .f64 = y at *
    cases s
    · have : FloatKind.f64.format.sqrt y = some (Ieee.double.write (.infinity false)) := by
        show ((FloatKind.f64.decode y).root _).map _ = _
        rw [h]; rfl
      unfold fsqrt; rw [this]
      exact over_inf (read_inf64 false)
    · exact hN _ (by show ((FloatKind.f64.decode y).root _).map _ = _; rw [h]; rfl)
  · have h := d_widen hx
    have hv : v < pw 4128 := by
      obtain ⟨m, e, h1, _, rfl⟩ := hx
      obtain ⟨h1, h2, h3⟩ := sgl_read h1
      unfold cnt
      calc m * 2 ^ (e + 4000).toNat < 2 ^ 24 * 2 ^ (e + 4000).toNat := Nat.mul_lt_mul_of_pos_right (by omega) (Nat.two_pow_pos _)
        _ = 2 ^ (24 + (e + 4000).toNat) := by rw [← Nat.pow_add]
        _ ≤ pw 4128 := pw_le (by omega)
    generalize fconv .f32 x .f64 = y at *
    obtain ⟨m, i, h1, h2, rfl⟩ := h
    obtain ⟨h3, h4, h5⟩ := dbl_read h1
    have hd : FloatKind.f64.decode y = .number s m i := h1
    by_cases hm : m = 0
    · subst hm
      have : FloatKind.f64.format.sqrt y = some (Ieee.double.write (.number s 0 i)) := by
        show ((FloatKind.f64.decode y).root _).map _ = _
        rw [hd]; rfl
      unfold fsqrt; rw [this]
      have hw := dbl_writep s 0 (e := i) (by omega) (by unfold cnt; rw [Nat.zero_mul]; exact Nat.zero_le _)
      refine over_fin hw ?_
      unfold cnt; rw [Nat.zero_mul, rd_zero]; exact Nat.zero_le _
    · cases s
      · have hlog : m.log2 < 53 := (Nat.log2_lt hm).2 (by omega)
        have hself : 2 ^ m.log2 ≤ m := Nat.log2_self_le hm
        have hi : (m.log2 : Int) + i ≤ 127 := by
          unfold cnt at hv
          have h6 : pw (m.log2 + (i + 4000).toNat) < pw 4128 := by
            rw [pw_add]; exact Nat.lt_of_le_of_lt (Nat.mul_le_mul_right _ hself) hv
          have h7 := pw_lt h6
          omega
        obtain ⟨p, hp, hp1⟩ : ∃ p : Nat, p = 2 * 54 - m.log2 + ((i - ((2 * 54 - m.log2 : Nat) : Int)) % 2).toNat ∧ 2 * 54 - m.log2 ≤ p ∧ p ≤ 2 * 54 - m.log2 + 1 := ⟨_, rfl, by omega, by omega⟩
        have hr : FloatKind.f64.format.sqrt y = some (Ieee.double.write (.number false (2 * Ieee.Datum.rootFrom (m <<< p) ((m <<< p).log2 / 2 + 1) 0 + (Ieee.Datum.rootFrom (m <<< p) ((m <<< p).log2 / 2 + 1) 0 * Ieee.Datum.rootFrom (m <<< p) ((m <<< p).log2 / 2 + 1) 0 != m <<< p).toNat) ((i - p) / 2 - 1))) := by
          show ((FloatKind.f64.decode y).root (52 + 2)).map _ = _
          rw [hd]
          unfold Ieee.Datum.root
          simp only [hm, if_false, Bool.false_eq_true]
          rw [hp]; rfl
        unfold fsqrt; rw [hr]
        have hl : (m <<< p).log2 = m.log2 + p := by rw [Nat.shiftLeft_eq, log2_mul_pow hm]
        have hw := rootFrom_lt (m <<< p) ((m <<< p).log2 / 2 + 1) 0
        rw [hl] at hw ⊢
        rw [Nat.zero_add] at hw
        have hw2 : (2 : Nat) ^ ((m.log2 + p) / 2 + 1) ≤ 2 ^ 55 := Nat.pow_le_pow_right (by decide) (by omega)
        generalize Ieee.Datum.rootFrom (m <<< p) ((m.log2 + p) / 2 + 1) 0 = W at *
        have hb : (W * W != m <<< p).toNat ≤ 1 := toNat_le _
        generalize (W * W != m <<< p).toNat = B at *
        have hc : cnt (2 * W + B) ((i - p) / 2 - 1) ≤ pw 4127 := by
          unfold cnt
          have hq : 2 * W + B ≤ 2 ^ 56 := by
            have : (2 : Nat) ^ 56 = 2 * 2 ^ 55 := by decide
            omega
          refine Nat.le_trans (Nat.mul_le_mul_right _ hq) ?_
          rw [← Nat.pow_add]
          exact pw_le (by omega)
        have hf := dbl_writep false (2 * W + B) (e := (i - p) / 2 - 1) (by omega) (Nat.le_trans hc (pw_le (by decide)))
        exact over_fin hf (rd_lep (by omega) (by omega) hc)
      · exact hN _ (by show ((FloatKind.f64.decode y).root _).map _ = _; rw [hd]; simp [Ieee.Datum.root, hm])
end Go.Proofs.Ytlimabbeaimdgaa
/- The forward pass: what is made of numbers. -/
namespace Go.Proofs.Ytlimabbeaimdgaa
set_option linter.unusedSimpArgs false
set_option linter.unusedVariables false
open Go.RowKit

/-- A number is returned, this one up to which not-a-number it is. -/
def RF (k : FloatKind) (w : World) (r : Nat) (e : Ending) (w' : World) : Prop := ∃ b, e = .returned (.float k b) ∧ cn k b = r ∧ Ext w w'
def dotG (f g : Nat → Nat) : Nat → Nat
  | 0 => 0
  | i + 1 => fop .add .f32 (dotG f g i) (fop .mul .f32 (f i) (g i))
def sumG (f : Nat → Nat) : Nat → Nat
  | 0 => 0
  | i + 1 => fop .add .f32 (sumG f i) (f i)
theorem cn0 : cn .f32 0 = 0 := by decide +kernel
theorem dotG_congr {f f' g g' : Nat → Nat} : ∀ {n : Nat}, (∀ i, i < n → f i = f' i) → (∀ i, i < n → g i = g' i) → dotG f g n = dotG f' g' n
  | 0, _, _ => rfl
  | n + 1, h, h' => by unfold dotG; rw [dotG_congr (fun i hi => h i (by omega)) (fun i hi => h' i (by omega)), h n (by omega), h' n (by omega)]

set_option maxRecDepth 100000 in
set_option maxHeartbeats 1000000 in
theorem dot_any (p q : Option Addr) (n c m d : Nat) (us vs : List Value) (xs ys : List Nat) (w : World) (hx : xs.length = n) (hy : ys.length = m) (hm : n ≤ m) (hn : m ≤ maxLen) (hp : Cs w p us) (hf : F32s us xs) (hq : Cs w q vs) (hg : F32s vs ys) :
    Calls Try.prog 158 #[.slice p n c, .slice q m d] w (RF .f32 w (dotG (fun j => xs.getD j 0) (fun j => ys.getD j 0) n)) := by
  unfold maxLen at hn
  have X := hid hx
  have Y := hid hy
  clear hx hy
  go_enter Try.func158, Try.ntmps158
  go_wp2
  go_loopw [5, 9] (fun sv iv wr => ∃ (i b : Nat), i ≤ n ∧ iv = .int .i64 i ∧ sv = .float .f32 b ∧ Hid (cn .f32 b = dotG (fun j => xs.getD j 0) (fun j => ys.getD j 0) i) ∧ Ext w wr) (fun _ iv _ => n - (intOf iv).toNat)
  case atStart => exact ⟨0, 0, by omega, rfl, rfl, cn0, Ext.refl _⟩
  case round =>
    obtain ⟨i, b, hi, rfl, rfl, HB, he⟩ := hrel
    by_cases hlt : i < n
    · have k1 := hp.ext he
      have k2 := hq.ext he
      go_wp2
      replace k1 := k1.ext (Ext.drew _)
      replace k2 := k2.ext (Ext.drew _)
      refine wp_region_xall (F := fun _ _ _ => False) (by kernel_rfl) (by kernel_rfl) (by kernel_rfl) ?_
      intro wf hwf
      repeat (first
        | (refine x_skip rfl ?_; simp only [Act.put, ev_tmp, List.setIfInBounds_toArray, List.set_cons_succ, List.set_cons_zero, List.getD_cons_succ, List.getD_cons_zero])
        | (refine x_mv rfl rfl rfl ?_; simp only [Act.put, ev_tmp, List.setIfInBounds_toArray, List.set_cons_succ, List.set_cons_zero, List.getD_cons_succ, List.getD_cons_zero])
        | (refine x_as rfl rfl rfl ?_; simp only [Act.put, ev_tmp, List.setIfInBounds_toArray, List.set_cons_succ, List.set_cons_zero, List.getD_cons_succ, List.getD_cons_zero])
        | ((with_reducible show wpX _ _ _ _ _ _ (Oper.mk _ (Op.indexAddr _ _ _) _ _ _ _ :: Oper.mk _ (Op.load _ _) _ _ _ _ :: _) _); refine x_ldF rfl rfl (fun _ => rfl) rfl (fun _ => rfl) rfl rfl k1 hf X.out (by omega) (by omega) ?_; intro r1 g1; have G1 := hid g1; clear g1; simp only [Act.put, ev_tmp, List.setIfInBounds_toArray, List.set_cons_succ, List.set_cons_zero, List.getD_cons_succ, List.getD_cons_zero])
        | ((with_reducible show wpX _ _ _ _ _ _ (Oper.mk _ (Op.indexAddr _ _ _) _ _ _ _ :: Oper.mk _ (Op.load _ _) _ _ _ _ :: _) _); refine x_ldF rfl rfl (fun _ => rfl) rfl (fun _ => rfl) rfl rfl k2 hg Y.out (by omega) (by omega) ?_; intro r2 g2; have G2 := hid g2; clear g2; simp only [Act.put, ev_tmp, List.setIfInBounds_toArray, List.set_cons_succ, List.set_cons_zero, List.getD_cons_succ, List.getD_cons_zero])
        | ((with_reducible show wpX _ _ _ _ _ _ (Oper.mk _ (Op.binOp _ _ _ _ _) _ _ _ _ :: _) _); refine x_fop rfl rfl rfl rfl rfl ?_; first | (have zz := G3; intro r4 g4; have G4 := hid g4; clear g4 zz) | (intro r3 g3; have G3 := hid g3; clear g3); simp only [Act.put, ev_tmp, List.setIfInBounds_toArray, List.set_cons_succ, List.set_cons_zero, List.getD_cons_succ, List.getD_cons_zero])
        | (refine x_run rfl fun K hK w1 hw1 => ?_; go_simp; refine hK _ ?_; clear hK K  hw1 w1))
      refine x_nil ?_
      go_wp2
      go_roundw
      case rel =>
        refine ⟨i + 1, _, by omega, by go_num, rfl, ?_, (he.trans (Ext.drew _)).trans hwf⟩
        have q1 := G1.out
        have q2 := G2.out
        simp only [Int.toNat_natCast] at q1 q2
        rw [Hid, G4.out, HB.out, G3.out, q1, q2]; rfl
      case measure => simp [intOf]; omega
    · obtain rfl : i = n := by omega
      go_wp2
      go_ret
      exact ⟨b, rfl, HB.out, he⟩
set_option maxRecDepth 100000 in
set_option maxHeartbeats 1000000 in
theorem sumOf_any (p : Option Addr) (n c : Nat) (us : List Value) (xs : List Nat) (w : World) (hx : xs.length = n) (hn : n ≤ maxLen) (hp : Cs w p us) (hf : F32s us xs) :
    Calls Try.prog 186 #[.slice p n c] w (RF .f32 w (sumG (fun j => xs.getD j 0) n)) := by
  unfold maxLen at hn
  have X := hid hx
  clear hx
  go_enter Try.func186, Try.ntmps186
  go_wp2
  go_loopw [3, 8] (fun sv iv wr => ∃ (i b : Nat), i ≤ n ∧ iv = .int .i64 i ∧ sv = .float .f32 b ∧ Hid (cn .f32 b = sumG (fun j => xs.getD j 0) i) ∧ Ext w wr) (fun _ iv _ => n - (intOf iv).toNat)
  case atStart => exact ⟨0, 0, by omega, rfl, rfl, cn0, Ext.refl _⟩
  case round =>
    obtain ⟨i, b, hi, rfl, rfl, HB, he⟩ := hrel
    by_cases hlt : i < n
    · have k1 := hp.ext he
      go_wp2_with (first | ((with_reducible show wpList _ _ _ (Oper.mk _ (Op.indexAddr _ _ _) _ _ _ _ :: Oper.mk _ (Op.load _ _) _ _ _ _ :: _) _ _); refine wl_ldF rfl rfl rfl rfl (fun _ => rfl) rfl rfl k1 hf X.out (by omega) (by omega) ?_; intro r1 g1; have G1 := hid g1; clear g1) | ((with_reducible show wpList _ _ _ (Oper.mk _ (Op.binOp _ _ _ _ _) _ _ _ _ :: _) _ _); refine wl_fop rfl rfl rfl rfl rfl ?_; intro r3 w3 e3 g3; have G3 := hid g3; clear g3))
      go_roundw
      case rel =>
        refine ⟨i + 1, _, by omega, by go_num, rfl, ?_, he.trans (by with_reducible assumption)⟩
        have q1 := G1.out
        simp only [Int.toNat_natCast] at q1
        rw [Hid, G3.out, HB.out, q1]; rfl
      case measure => simp [intOf]; omega
    · obtain rfl : i = n := by omega
      go_wp2
      go_ret
      exact ⟨b, rfl, HB.out, he⟩
/-- The greater of a number and nought. -/
def reluF (x : Nat) : Nat := if fgt .f32 x 0 || !(feq .f32 x x) then x else 0
set_option maxRecDepth 100000 in
set_option maxHeartbeats 1000000 in
theorem relu_any (b : Nat) (w : World) : Calls Try.prog 159 #[.float .f32 b] w (RF .f32 w (reluF (cn .f32 b))) := by
  have h0 : cn .f32 0 = 0 := by decide +kernel
  have f1 := fgt_cn .f32 b 0
  have f2 := feq_cn .f32 b b
  rw [h0] at f1
  have hr : reluF (cn .f32 b) = if fgt .f32 b 0 || !(feq .f32 b b) then cn .f32 b else 0 := by unfold reluF; rw [f1, f2]
  cases ha : fgt .f32 b 0
  · cases hb : feq .f32 b b
    · have a1 : (FloatKind.f32.format.order b 0 == some .gt) = false := ha
      have a2 : (FloatKind.f32.format.order b b != some .eq) = true := by unfold feq at hb; unfold bne; rw [hb]; rfl
      rw [ha, hb] at hr
      go_enter Try.func159, Try.ntmps159
      go_wp2
      go_ret
      exact ⟨b, rfl, by rw [hr]; rfl, Ext.refl _⟩
    · have a1 : (FloatKind.f32.format.order b 0 == some .gt) = false := ha
      have a2 : (FloatKind.f32.format.order b b != some .eq) = false := by unfold feq at hb; unfold bne; rw [hb]; rfl
      rw [ha, hb] at hr
      go_enter Try.func159, Try.ntmps159
      go_wp2
      go_ret
      exact ⟨0, rfl, by rw [hr, h0]; rfl, Ext.refl _⟩
  · have a1 : (FloatKind.f32.format.order b 0 == some .gt) = true := ha
    rw [ha] at hr
    go_enter Try.func159, Try.ntmps159
    go_wp2
    go_ret
    exact ⟨b, rfl, by rw [hr]; rfl, Ext.refl _⟩
end Go.Proofs.Ytlimabbeaimdgaa
/- The forward pass: powers of e, tangents, roots. -/
namespace Go.Proofs.Ytlimabbeaimdgaa
set_option linter.unusedSimpArgs false
set_option linter.unusedVariables false
open Go.RowKit

def kz (i : Nat) : Nat := FloatKind.f64.nearest ((12 - i : Nat) : Int)
theorem kz_zero : kz 0 = 4622945017495814144 := by decide +kernel
theorem kz_ge : ∀ i : Nat, i < 12 → (FloatKind.f64.format.order (kz i) 4607182418800017408 == some .gt || FloatKind.f64.format.order (kz i) 4607182418800017408 == some .eq) = true := by decide +kernel
theorem kz_end : (FloatKind.f64.format.order (kz 12) 4607182418800017408 == some .gt || FloatKind.f64.format.order (kz 12) 4607182418800017408 == some .eq) = false := by decide +kernel
theorem kz_sub : ∀ i : Nat, i < 12 → fop .sub .f64 (cn .f64 (kz i)) (cn .f64 4607182418800017408) = kz (i + 1) := by decide +kernel
theorem kz_not : ∀ i : Nat, i < 13 → (FloatKind.f64.decode (kz i)).isNaN = false := by decide +kernel
theorem kz_next {i r : Nat} (hi : i < 12) (h : cn .f64 r = fop .sub .f64 (cn .f64 (kz i)) (cn .f64 4607182418800017408)) : r = kz (i + 1) := by
  rw [kz_sub i hi] at h
  refine (eq_of_cn (k := .f64) (x := kz (i + 1)) (y := r) ?_ (kz_not _ (by omega))).symm
  rw [h]; exact cn_not (kz_not _ (by omega))
def mz : Value → Nat
  | .float _ b => 13 - (List.range 13).findIdx (fun i => kz i == b)
  | _ => 0
theorem mz_kz : ∀ i : Nat, i < 13 → mz (.float .f64 (kz i)) = 13 - i := by decide +kernel
theorem cn_one : cn .f64 4607182418800017408 = oneD := by decide +kernel
theorem cn_256 : cn .f64 4643211215818981376 = c256 := by decide +kernel
theorem cn_kz {i : Nat} (hi : i ≤ 12) : cn .f64 (kz i) = kz i := cn_not (kz_not i (by omega))

set_option maxRecDepth 100000 in
set_option maxHeartbeats 1000000 in
theorem exp64_any (b : Nat) (w : World) : Calls Try.prog 188 #[.float .f64 b] w (RF .f64 w (expD (cn .f64 b))) := by
  go_enter Try.func188, Try.ntmps188
  go_wp2_with ((with_reducible show wpList _ _ _ (Oper.mk _ (Op.binOp _ _ _ _ _) _ _ _ _ :: _) _ _); refine wl_fop rfl rfl rfl rfl rfl ?_; intro r0 w0 e0 g0; have G0 := hid g0; clear g0)
  obtain ⟨T, hT⟩ : ∃ T, T = fop .quo .f64 (cn .f64 b) c256 := ⟨_, rfl⟩
  have HT := hid hT
  replace G0 := G0.out
  rw [cn_256, ← hT] at G0
  have G1 := hid G0
  clear hT G0
  go_loopw [4, 5] (fun sv kv wr => ∃ (i p : Nat), i ≤ 12 ∧ kv = .float .f64 (kz i) ∧ sv = .float .f64 p ∧ Hid (cn .f64 p = expP T i) ∧ Ext w wr) (fun _ kv _ => mz kv)
  case atStart => exact ⟨0, 4607182418800017408, by omega, by rw [kz_zero], rfl, cn_one, by with_reducible assumption⟩
  case round =>
    obtain ⟨i, p, hi, rfl, rfl, HB, he⟩ := hrel
    by_cases hlt : i < 12
    · have ha := kz_ge i hlt
      obtain ⟨K, hK⟩ : ∃ K, K = kz i := ⟨_, rfl⟩
      have HK := hid hK
      rw [← hK] at ha ⊢
      clear hK
      go_wp2_with ((with_reducible show wpList _ _ _ (Oper.mk _ (Op.binOp _ _ _ _ _) _ _ _ _ :: _) _ _); refine wl_fop rfl rfl rfl rfl rfl ?_; first | (have zz := G7; intro r8 w8 e8 g8; have G8 := hid g8; clear g8 zz; replace he := he.trans e8) | (have zz := G6; intro r7 w7 e7 g7; have G7 := hid g7; clear g7 zz; replace he := he.trans e7) | (have zz := G5; intro r6 w6 e6 g6; have G6 := hid g6; clear g6 zz; replace he := he.trans e6) | (intro r5 w5 e5 g5; have G5 := hid g5; clear g5; replace he := he.trans e5))
      have q8 : r8 = kz (i + 1) := kz_next hlt (by rw [← HK.out]; exact G8.out)
      subst q8
      go_roundw
      case rel =>
        refine ⟨i + 1, _, by omega, rfl, rfl, ?_, he⟩
        rw [Hid, G7.out, G6.out, G5.out, G1.out, HB.out, HK.out, cn_one, cn_kz hi]; rfl
      case measure => rw [HK.out, mz_kz i (by omega), mz_kz (i + 1) (by omega)]; omega
    · obtain rfl : i = 12 := by omega
      have ha := kz_end
      go_wp2
      obtain ⟨P, hP⟩ : ∃ P, P = expP T 12 := ⟨_, rfl⟩
      have HP := hid hP
      have H0 : cn .f64 p = P := by rw [hP]; exact HB.out
      have H1 := hid H0
      clear hP H0 ha
      go_loopw [4, 18] (fun sv iv wr => ∃ (i p : Nat), i ≤ 8 ∧ iv = .int .i64 i ∧ sv = .float .f64 p ∧ Hid (cn .f64 p = sqrD P i) ∧ Ext w wr) (fun _ iv _ => 8 - (intOf iv).toNat)
      case atStart => exact ⟨0, p, by omega, rfl, rfl, H1.out, by with_reducible assumption⟩
      case round =>
        clear he H1 HB
        obtain ⟨i, p, hi, rfl, rfl, HB, he⟩ := hrel
        by_cases hlt : i < 8
        · go_wp2_with ((with_reducible show wpList _ _ _ (Oper.mk _ (Op.binOp _ _ _ _ _) _ _ _ _ :: _) _ _); refine wl_fop rfl rfl rfl rfl rfl ?_; intro r5 w5 e5 g5; have G5 := hid g5; clear g5; replace he := he.trans e5)
          go_roundw
          case rel =>
            refine ⟨i + 1, _, by omega, by go_num, rfl, ?_, he⟩
            rw [Hid, G5.out, HB.out]; rfl
          case measure => simp [intOf]; omega
        · obtain rfl : i = 8 := by omega
          go_wp2
          go_ret
          refine ⟨p, rfl, ?_, he⟩
          rw [HB.out, HP.out, HT.out]; rfl

/-- e to the power of a double, with the bounds that the second program asks. -/
def expW (d : Nat) : Nat := if fgt .f64 d C200 then 9218868437227405312 else if flt .f64 d N200 then 0 else expD d
theorem cnd (k : FloatKind) (b : Nat) : (k.format.order b b != some .eq) = (k.decode b).isNaN := by
  cases h : (k.decode b).isNaN
  · rw [order_self h]; rfl
  · rw [order_nan h]; rfl
theorem gt_cn {k : FloatKind} {b c : Nat} (hc : cn k c = c) : (k.format.order b c == some .gt) = fgt k (cn k b) c := by
  have := fgt_cn k b c; rw [hc] at this; rw [this]; rfl
theorem lt_cn {k : FloatKind} {b c : Nat} (hc : cn k c = c) : (k.format.order b c == some .lt) = flt k (cn k b) c := by
  have := flt_cn k b c; rw [hc] at this; rw [this]; rfl
theorem cn_C200 : cn .f64 C200 = C200 := by decide +kernel
theorem cn_N200 : cn .f64 N200 = N200 := by decide +kernel
theorem cn_c200 : cn .f32 c200 = c200 := by decide +kernel
theorem cn_n200 : cn .f32 n200 = n200 := by decide +kernel
theorem cn_c20 : cn .f32 c20 = c20 := by decide +kernel
theorem cn_n20 : cn .f32 n20 = n20 := by decide +kernel
theorem cn_two : cn .f64 4611686018427387904 = twoD := by decide +kernel
/-- Made a double, k as the program writes it. -/
theorem near_kz {i : Nat} (h : i < 12) : floatOfInt .f64 (12 - (i : Int)) = kz i := by
  have : (12 - (i : Int)) = ((12 - i : Nat) : Int) := by omega
  rw [this]; rfl
theorem fover_zero : fover .f64 0 .f32 = false := by decide +kernel
theorem fconv_zero : fconv .f64 0 .f32 = 0 := by decide +kernel
set_option maxRecDepth 100000 in
set_option maxHeartbeats 1000000 in
theorem ExpNumber_any (b : Nat) (w : World) (h : NonPos (cn .f32 b)) : Calls Try.prog 199 #[.float .f32 b] w (RF .f32 w (expF (cn .f32 b))) := by
  have h1 := nonpos_gt h
  have h4 := exp_over h
  have hr : expF (cn .f32 b) = if flt .f32 (cn .f32 b) n200 then 0 else fconv .f64 (expD (fconv .f32 (cn .f32 b) .f64)) .f32 := by unfold expF; rw [h1]; rfl
  have a1 : (FloatKind.f32.format.order b 1128792064 == some .gt) = false := by rw [← h1]; exact gt_cn cn_c200
  have a2 : (FloatKind.f32.format.order b 3276275712 == some .lt) = flt .f32 (cn .f32 b) n200 := lt_cn cn_n200
  cases hl : flt .f32 (cn .f32 b) n200
  · rw [hl] at a2 hr
    have H4 := hid (h4 hl)
    have HR := hid hr
    clear h4 hr h1 h hl
    go_enter Try.func199, Try.ntmps199
    go_wp2_with ((with_reducible show wpList _ _ _ (Oper.mk _ (Op.convert _ _ _) _ _ _ _ :: _) _ _); refine wl_conv rfl rfl rfl (by kernel_rfl) underlying_f64 (fover_widen _) ?_; intro r0 w0 e0 g0; have G0 := hid g0; clear g0)
    refine (exp64_any r0 _).mono ?_
    rintro e w1 ⟨b1, rfl, g1, e1⟩
    rw [G0.out] at g1
    have G1 := hid g1
    clear g1
    go_wp2_with ((with_reducible show wpList _ _ _ (Oper.mk _ (Op.convert _ _ _) _ _ _ _ :: _) _ _); refine wl_conv rfl rfl rfl (by kernel_rfl) underlying_f32 (by rw [G1.out]; exact H4.out) ?_; intro r2 w2 e2 g2; have G2 := hid g2; clear g2)
    go_ret
    exact ⟨r2, rfl, by rw [G2.out, G1.out, HR.out]; rfl, (e0.trans e1).trans e2⟩
  · rw [hl] at a2 hr
    have HR := hid hr
    clear h4 hr h1 h hl
    go_enter Try.func199, Try.ntmps199
    go_wp2
    go_ret
    exact ⟨0, rfl, by rw [HR.out, if_pos trivial]; exact cn0, Ext.refl _⟩
end Go.Proofs.Ytlimabbeaimdgaa
/- The forward pass: tangents, roots. -/
namespace Go.Proofs.Ytlimabbeaimdgaa
set_option linter.unusedSimpArgs false
set_option linter.unusedVariables false
open Go.RowKit

theorem cn_cmp {b : Nat} : (FloatKind.f32.format.order b 1101004800 == some .gt) = fgt .f32 (cn .f32 b) c20 ∧ (FloatKind.f32.format.order b 3248488448 == some .lt) = flt .f32 (cn .f32 b) n20 := ⟨gt_cn cn_c20, lt_cn cn_n20⟩
theorem f32_one : cn .f32 1065353216 = 1065353216 := by decide +kernel
theorem f32_mone : cn .f32 3212836864 = 3212836864 := by decide +kernel
set_option maxRecDepth 100000 in
set_option maxHeartbeats 1000000 in
theorem TanhNumber_any (b : Nat) (w : World) : Calls Try.prog 160 #[.float .f32 b] w (RF .f32 w (tanF (cn .f32 b))) := by
  obtain ⟨a1, a2⟩ := cn_cmp (b := b)
  have hr : tanF (cn .f32 b) = if fgt .f32 (cn .f32 b) c20 then 1065353216 else if flt .f32 (cn .f32 b) n20 then 3212836864 else fconv .f64 (tanhD (expD (tanW (cn .f32 b)))) .f32 := rfl
  have h4 := tanh_over (x := cn .f32 b)
  cases hg : fgt .f32 (cn .f32 b) c20
  · rw [hg] at a1 hr
    cases hl : flt .f32 (cn .f32 b) n20
    · rw [hl] at a2 hr
      have HR := hid hr
      have H4 := hid (h4 hg hl)
      clear hr h4 hg hl
      go_enter Try.func160, Try.ntmps160
      go_wp2_with (first | ((with_reducible show wpList _ _ _ (Oper.mk _ (Op.convert _ _ _) _ _ _ _ :: _) _ _); refine wl_conv rfl rfl rfl (by kernel_rfl) underlying_f64 (fover_widen _) ?_; intro r0 w0 e0 g0; have G0 := hid g0; clear g0) | ((with_reducible show wpList _ _ _ (Oper.mk _ (Op.binOp _ _ _ _ _) _ _ _ _ :: _) _ _); refine wl_fop rfl rfl rfl rfl rfl ?_; intro r1 w1 e1 g1; have G1 := hid g1; clear g1))
      refine (exp64_any r1 _).mono ?_
      rintro e w2 ⟨b2, rfl, g2, e2⟩
      have G2 := hid g2
      clear g2
      have hv : cn .f64 r1 = tanW (cn .f32 b) := by rw [G1.out, G0.out, cn_two]; rfl
      have HV := hid hv
      clear hv
      go_wp2_with (first | ((with_reducible show wpList _ _ _ (Oper.mk _ (Op.binOp _ _ _ _ _) _ _ _ _ :: _) _ _); refine wl_fop rfl rfl rfl rfl rfl ?_; first | (have zz := G4; intro r5 w5 e5 g5; have G5 := hid g5; clear g5 zz) | (have zz := G3; intro r4 w4 e4 g4; have G4 := hid g4; clear g4 zz) | (intro r3 w3 e3 g3; have G3 := hid g3; clear g3)) | ((with_reducible show wpList _ _ _ (Oper.mk _ (Op.convert _ _ _) _ _ _ _ :: _) _ _); refine wl_conv rfl rfl rfl (by kernel_rfl) underlying_f32 (by rw [G5.out, G4.out, G3.out, G2.out, HV.out, cn_one]; exact H4.out) ?_; intro r6 w6 e6 g6; have G6 := hid g6; clear g6))
      go_ret
      refine ⟨r6, rfl, ?_, (((((e0.trans e1).trans e2).trans e3).trans e4).trans e5).trans e6⟩
      rw [G6.out, G5.out, G4.out, G3.out, G2.out, HV.out, cn_one, HR.out]; rfl
    · rw [hl] at a2 hr
      have HR := hid hr
      clear hr h4 hg hl
      go_enter Try.func160, Try.ntmps160
      go_wp2
      go_ret
      exact ⟨_, rfl, by rw [HR.out]; exact f32_mone, Ext.refl _⟩
  · rw [hg] at a1 hr
    have HR := hid hr
    clear hr h4 hg
    go_enter Try.func160, Try.ntmps160
    go_wp2
    go_ret
    exact ⟨_, rfl, by rw [HR.out]; exact f32_one, Ext.refl _⟩
/-! Roots. -/
theorem fsqrt_cn (k : FloatKind) (b : Nat) : (k.format.sqrt b).getD (nanB k) = fsqrt k (cn k b) := by
  by_cases h : (k.decode b).isNaN = true
  · have h2 : (k.decode (cn k b)).isNaN = true := by rw [isNaN_cn]; exact h
    have key : ∀ y, (k.decode y).isNaN = true → k.format.sqrt y = none := fun y hy => by
      obtain ⟨s, f, hd⟩ := eq_nan_of_isNaN hy
      show ((k.decode y).root _).map _ = _
      rw [hd]; rfl
    unfold fsqrt; rw [key _ h, key _ h2]
  · rw [cn_not (by simpa using h)]; rfl
theorem root_not {n : Nat} {x z : Ieee.Datum} (h : x.root n = some z) : z.isNaN = false := by
  cases x with
  | nan s t => cases h
  | infinity s => cases s <;> simp [Ieee.Datum.root] at h; subst h; rfl
  | number s m i =>
    unfold Ieee.Datum.root at h
    dsimp only at h
    split at h
    · cases h; rfl
    · split at h
      · cases h
      · cases h; rfl
theorem cn_fsqrt (k : FloatKind) (b : Nat) : cn k (fsqrt k b) = fsqrt k b := by
  unfold fsqrt
  cases h : k.format.sqrt b with
  | none => exact cn_nan (isNaN_nanB k)
  | some r => exact cn_not (isNaN_map (fun z hz => root_not hz) h)
theorem run_extern2 {P : Program} {f : FuncId} {fn : Func} {e : Array Value → Sem Value} {args : Array Value} {v : Value} {w w' : World} (hf : P.funcs[f]? = some fn) (hname : (fn.name == "runtime.NumGoroutine") = false) (hb : fn.body.isNone = true)
    (hn : Extern.findNext fn = none) (he : Extern.find fn = some e) (hr : (e args).run P w = .ok v w') : (callFunc f args).run P w = .ok (.value v) w' := by
  have hname' : ¬ fn.name = "runtime.NumGoroutine" := by simpa using hname
  have hb' : fn.body = none := by simpa using hb
  simp [callFunc, hf, hname', hb', hn, he, hr, program, Sem.run, mark]
theorem run_sqrt (b : Nat) (w : World) : ∃ r n, (callFunc 215 #[.float .f64 b]).run Try.prog w = .ok (.value (.float .f64 r)) (w.drewN n) ∧ cn .f64 r = fsqrt .f64 (cn .f64 b) := by
  rw [← fsqrt_cn]
  have hR : ∀ v w', (Extern.MathSqrt.sqrt #[.float .f64 b]).run Try.prog w = .ok v w' → (callFunc 215 #[.float .f64 b]).run Try.prog w = .ok (.value v) w' := fun v w' h =>
    run_extern2 (e := Extern.MathSqrt.sqrt) Try.func215 (by kernel_rfl) (by kernel_rfl) (by kernel_rfl) (by kernel_rfl) h
  have hs : Extern.MathSqrt.sqrt #[.float .f64 b] = (match FloatKind.f64.format.sqrt b with | some r => pure (.float .f64 r) | none => do pure (.float .f64 (← choose (.nanBits .f64 b b)))) := rfl
  cases h : FloatKind.f64.format.sqrt b with
  | some r =>
    refine ⟨r, 0, hR _ _ ?_, ?_⟩
    · rw [hs, h]; simp [Sem.run, World.drewN]
    · have := cn_fsqrt .f64 b
      unfold fsqrt at this; rw [h] at this; exact this
  | none =>
    have key : ∀ q : Question, q = .nanBits .f64 b b → ∃ r, (Extern.MathSqrt.sqrt #[.float .f64 b]).run Try.prog w = .ok (.float .f64 (q.cut r)) (w.drewN 1) := by
      rintro q rfl
      refine ⟨w.tape w.drawn (.nanBits .f64 b b), ?_⟩
      rw [hs, h]; simp [choose, Sem.run, Question.forced, World.drewN]
    obtain ⟨r, hr⟩ := key _ rfl
    exact ⟨_, 1, hR _ _ hr, cn_nan (cut_nan64 r)⟩
set_option maxRecDepth 100000 in
set_option maxHeartbeats 1000000 in
theorem Sqrt_any (b : Nat) (w : World) : Calls Try.prog 200 #[.float .f64 b] w (RF .f64 w (fsqrt .f64 (cn .f64 b))) := by
  obtain ⟨r, n, hx, hr⟩ := run_sqrt b w
  have HR := hid hr
  clear hr
  have e1 : Ext w (w.drewN n) := Ext.drewN _ _
  go_enter Try.func200, Try.ntmps200
  go_wp2
  go_ret
  exact ⟨r, rfl, HR.out, by with_reducible assumption⟩
end Go.Proofs.Ytlimabbeaimdgaa
/- The forward pass: roots, greatest numbers, shares. -/
namespace Go.Proofs.Ytlimabbeaimdgaa
set_option linter.unusedSimpArgs false
set_option linter.unusedVariables false
open Go.RowKit Rnd

def rootF (x : Nat) : Nat := fconv .f64 (fsqrt .f64 (fconv .f32 x .f64)) .f32
set_option maxRecDepth 100000 in
set_option maxHeartbeats 1000000 in
theorem RootNumber_any (b : Nat) (w : World) : Calls Try.prog 187 #[.float .f32 b] w (RF .f32 w (rootF (cn .f32 b))) := by
  have H := hid (sqrt_over (cn .f32 b))
  go_enter Try.func187, Try.ntmps187
  go_wp2_with (first | ((with_reducible show wpList _ _ _ (Oper.mk _ (Op.convert _ _ _) _ _ _ _ :: _) _ _); refine wl_conv rfl rfl rfl (by kernel_rfl) underlying_f64 (fover_widen _) ?_; intro r0 w0 e0 g0; have G0 := hid g0; clear g0) | ((with_reducible show wpList _ _ _ (Oper.mk _ (Op.call _) _ _ _ _ :: _) _ _); fail))
  refine (Sqrt_any r0 _).mono ?_
  rintro e w1 ⟨b1, rfl, g1, e1⟩
  have G1 := hid g1
  clear g1
  go_wp2_with ((with_reducible show wpList _ _ _ (Oper.mk _ (Op.convert _ _ _) _ _ _ _ :: _) _ _); refine wl_conv rfl rfl rfl (by kernel_rfl) underlying_f32 (by rw [G1.out, G0.out]; exact H.out) ?_; intro r2 w2 e2 g2; have G2 := hid g2; clear g2)
  go_ret
  exact ⟨r2, rfl, by rw [G2.out, G1.out, G0.out]; rfl, (e0.trans e1).trans e2⟩
/-! Greatest numbers. -/
/-- What a single comes to; infinities are beyond all others. -/
def rk (x : Nat) : Int := match FloatKind.f32.decode x with
  | .infinity s => sg s (pw 5000)
  | .number s m e => sg s (cnt m e)
  | .nan _ _ => 0
theorem rk_lt {s : Bool} {m : Nat} {e : Int} {x : Nat} (h : Ieee.single.read x = .number s m e) : cnt m e < pw 5000 := by
  obtain ⟨h1, h2, h3⟩ := sgl_read h
  unfold cnt
  calc m * 2 ^ (e + 4000).toNat < 2 ^ 24 * 2 ^ (e + 4000).toNat := Nat.mul_lt_mul_of_pos_right (by omega) (Nat.two_pow_pos _)
    _ = 2 ^ (24 + (e + 4000).toNat) := by rw [← Nat.pow_add]
    _ ≤ pw 5000 := pw_le (by omega)
theorem sg_lt (s : Bool) {v P : Nat} (h : v < P) : - (P : Int) < sg s v ∧ sg s v < P := by unfold sg; cases s <;> simp <;> omega
theorem order_rk {x y : Nat} (hx : (FloatKind.f32.decode x).isNaN = false) (hy : (FloatKind.f32.decode y).isNaN = false) : FloatKind.f32.format.order x y = some (compare (rk x) (rk y)) := by
  have hp : (0 : Int) < ((pw 5000 : Nat) : Int) := Int.natCast_pos.2 (pw_pos _)
  cases ex : FloatKind.f32.decode x with
  | nan s f => rw [ex] at hx; cases hx
  | infinity s =>
    have rx : rk x = sg s (pw 5000) := by unfold rk; rw [ex]
    cases ey : FloatKind.f32.decode y with
    | nan s f => rw [ey] at hy; cases hy
    | infinity t =>
      have ry : rk y = sg t (pw 5000) := by unfold rk; rw [ey]
      show (FloatKind.f32.decode x).order (FloatKind.f32.decode y) = _
      rw [ex, ey, rx, ry]
      generalize pw 5000 = P at *
      unfold sg
      cases s <;> cases t
      · exact congrArg some (Eq.trans (b := .eq) rfl (Int.compare_eq_eq.2 rfl).symm)
      · exact congrArg some (Eq.trans (b := .gt) rfl (Int.compare_eq_gt.2 (by simp; omega)).symm)
      · exact congrArg some (Eq.trans (b := .lt) rfl (Int.compare_eq_lt.2 (by simp; omega)).symm)
      · exact congrArg some (Eq.trans (b := .eq) rfl (Int.compare_eq_eq.2 rfl).symm)
    | number t m e =>
      have ry : rk y = sg t (cnt m e) := by unfold rk; rw [ey]
      have hb := sg_lt t (rk_lt (x := y) ey)
      show (FloatKind.f32.decode x).order (FloatKind.f32.decode y) = _
      rw [ex, ey, rx, ry]
      generalize sg t (cnt m e) = Y at *
      generalize pw 5000 = P at *
      show some (if s then _ else _) = _
      congr 1
      unfold sg
      cases s
      · exact (Int.compare_eq_gt.2 (by simp; omega)).symm
      · exact (Int.compare_eq_lt.2 (by simp; omega)).symm
  | number s m e =>
    have rx : rk x = sg s (cnt m e) := by unfold rk; rw [ex]
    have fx : Fin Ieee.single x s (cnt m e) := ⟨m, e, ex, by have := (sgl_read (x := x) ex).2.1; rw [show (Ieee.single).leastPlace = -149 from by decide]; omega, rfl⟩
    cases ey : FloatKind.f32.decode y with
    | nan s f => rw [ey] at hy; cases hy
    | infinity t =>
      have ry : rk y = sg t (pw 5000) := by unfold rk; rw [ey]
      have hb := sg_lt s (rk_lt (x := x) ex)
      show (FloatKind.f32.decode x).order (FloatKind.f32.decode y) = _
      rw [ex, ey, rx, ry]
      generalize sg s (cnt m e) = X at *
      generalize pw 5000 = P at *
      show some (if t then _ else _) = _
      congr 1
      unfold sg
      cases t
      · exact (Int.compare_eq_lt.2 (by simp; omega)).symm
      · exact (Int.compare_eq_gt.2 (by simp; omega)).symm
    | number t m' e' =>
      have ry : rk y = sg t (cnt m' e') := by unfold rk; rw [ey]
      have fy : Fin Ieee.single y t (cnt m' e') := ⟨m', e', ey, by have := (sgl_read (x := y) ey).2.1; rw [show (Ieee.single).leastPlace = -149 from by decide]; omega, rfl⟩
      rw [rx, ry]
      exact fin_order ok_single fx fy
theorem fgt_nan_l {x y : Nat} (h : (FloatKind.f32.decode x).isNaN = true) : fgt .f32 x y = false := by
  unfold fgt; rw [order_nan h]; rfl
theorem fgt_nan_r {x y : Nat} (h : (FloatKind.f32.decode y).isNaN = true) : fgt .f32 x y = false := by
  have : FloatKind.f32.format.order x y = none := by
    show (FloatKind.f32.decode x).order (FloatKind.f32.decode y) = _
    exact order_nan_r h
  unfold fgt; rw [this]; rfl
theorem fgt_rk {x y : Nat} (hx : (FloatKind.f32.decode x).isNaN = false) (hy : (FloatKind.f32.decode y).isNaN = false) : fgt .f32 x y = decide (rk y < rk x) := by
  unfold fgt; rw [order_rk hx hy]
  by_cases h : rk y < rk x
  · rw [Int.compare_eq_gt.2 h, decide_eq_true h]; rfl
  · rw [decide_eq_false h]
    rcases Int.lt_or_eq_of_le (Int.not_lt.1 h) with h' | h'
    · rw [Int.compare_eq_lt.2 h']; rfl
    · rw [Int.compare_eq_eq.2 h']; rfl
theorem fgt_trans {x y z : Nat} (h : fgt .f32 x y = true) (k : fgt .f32 y z = true) : fgt .f32 x z = true := by
  cases hx : (FloatKind.f32.decode x).isNaN
  · cases hy : (FloatKind.f32.decode y).isNaN
    · cases hz : (FloatKind.f32.decode z).isNaN
      · rw [fgt_rk hx hy] at h
        rw [fgt_rk hy hz] at k
        rw [fgt_rk hx hz]
        have h := of_decide_eq_true h
        have k := of_decide_eq_true k
        exact decide_eq_true (by omega)
      · rw [fgt_nan_r hz] at k; cases k
    · rw [fgt_nan_r hy] at h; cases h
  · rw [fgt_nan_l hx] at h; cases h
theorem fgt_self (x : Nat) : fgt .f32 x x = false := by
  cases hx : (FloatKind.f32.decode x).isNaN
  · rw [fgt_rk hx hx]; exact decide_eq_false (Int.lt_irrefl _)
  · exact fgt_nan_l hx
/-- The first of the greatest of the first numbers. -/
def gi (xs : List Nat) : Nat → Nat
  | 0 => 0
  | j + 1 => if fgt .f32 (xs.getD j 0) (xs.getD (gi xs j) 0) then j else gi xs j
theorem gi_lt (xs : List Nat) : ∀ {j : Nat}, 0 < j → gi xs j < j
  | 1, _ => by
    show (if fgt .f32 (xs.getD 0 0) (xs.getD 0 0) then 0 else 0) < 1
    split <;> omega
  | j + 2, _ => by
    have := gi_lt xs (j := j + 1) (by omega)
    have e : gi xs (j + 1 + 1) = if fgt .f32 (xs.getD (j + 1) 0) (xs.getD (gi xs (j + 1)) 0) then j + 1 else gi xs (j + 1) := rfl
    rw [e]
    split <;> omega
theorem gi_one (xs : List Nat) : gi xs 1 = 0 := by have := gi_lt xs (j := 1) (by omega); omega
theorem gi_max (xs : List Nat) : ∀ (j i : Nat), i < j → fgt .f32 (xs.getD i 0) (xs.getD (gi xs j) 0) = false
  | 0, _, h => by omega
  | j + 1, i, h => by
    have e : gi xs (j + 1) = if fgt .f32 (xs.getD j 0) (xs.getD (gi xs j) 0) then j else gi xs j := rfl
    cases hc : fgt .f32 (xs.getD j 0) (xs.getD (gi xs j) 0)
    · rw [e, hc]
      by_cases hij : i = j
      · subst hij; exact hc
      · exact gi_max xs j i (by omega)
    · rw [e, hc, if_pos rfl]
      by_cases hij : i = j
      · subst hij; exact fgt_self _
      · cases h2 : fgt .f32 (xs.getD i 0) (xs.getD j 0)
        · rfl
        · have := fgt_trans h2 hc
          rw [gi_max xs j i (by omega)] at this; cases this
theorem gt_eq (a b : Nat) : (FloatKind.f32.format.order a b == some .gt) = fgt .f32 (cn .f32 a) (cn .f32 b) := by rw [fgt_cn]; rfl

set_option maxRecDepth 100000 in
set_option maxHeartbeats 1000000 in
theorem greatestOf_any (p : Option Addr) (n c : Nat) (us : List Value) (xs : List Nat) (w : World) (hx : xs.length = n) (h1 : 1 ≤ n) (hn : n ≤ maxLen) (hp : Cs w p us) (hf : F32s us xs) :
    Calls Try.prog 97 #[.slice p n c] w fun e w' => e = .returned (.int .i64 (gi xs n)) ∧ Ext w w' := by
  unfold maxLen at hn
  have X := hid hx
  clear hx
  go_enter Try.func97, Try.ntmps97
  go_wp2
  go_loopw [3, 8] (fun kv iv wr => ∃ (i : Nat), i ≤ n ∧ iv = .int .i64 i ∧ kv = .int .i64 (gi xs i) ∧ Ext w wr) (fun _ iv _ => n - (intOf iv).toNat)
  case atStart => exact ⟨0, by omega, rfl, rfl, Ext.refl _⟩
  case round =>
    obtain ⟨i, hi, rfl, rfl, he⟩ := hrel
    by_cases hlt : i < n
    · have k1 := hp.ext he
      have hg : gi xs i < n := by
        rcases Nat.eq_zero_or_pos i with h | h
        · subst h; show 0 < n; omega
        · have := gi_lt xs h; omega
      have hs : gi xs (i + 1) = if fgt .f32 (xs.getD i 0) (xs.getD (gi xs i) 0) then i else gi xs i := rfl
      have HS := hid hs
      clear hs
      generalize gi xs i = k at *
      go_wp2_with ((with_reducible show wpList _ _ _ (Oper.mk _ (Op.indexAddr _ _ _) _ _ _ _ :: Oper.mk _ (Op.load _ _) _ _ _ _ :: _) _ _); refine wl_ldF rfl rfl rfl rfl (fun _ => rfl) rfl rfl k1 hf X.out (by omega) (by omega) ?_; first | (have zz := G1; intro r2 g2; have G2 := hid g2; clear g2 zz) | (intro r1 g1; have G1 := hid g1; clear g1))
      all_goals go_roundw
      all_goals first
        | (case rel =>
            refine ⟨i + 1, by omega, by go_num, ?_, he⟩
            rename_i hc
            have q1 := G1.out
            have q2 := G2.out
            simp only [Int.toNat_natCast] at q1 q2
            have hh := gt_eq r1 r2
            rw [q1, q2] at hh
            rw [HS.out]
            first
              | (rw [hc] at hh; rw [← hh]; rfl)
              | (rw [decide_eq_true hc] at hh; rw [← hh]; rfl))
        | (case measure => simp [intOf]; omega)
    · obtain rfl : i = n := by omega
      go_wp2
      go_ret
      exact ⟨rfl, he⟩
end Go.Proofs.Ytlimabbeaimdgaa
/- The forward pass: shares. -/
namespace Go.Proofs.Ytlimabbeaimdgaa
set_option linter.unusedSimpArgs false
set_option linter.unusedVariables false
open Go.RowKit

/-- A table of the first values of a function. -/
def tab (n : Nat) (f : Nat → Nat) : List Nat := (List.range n).map f
theorem tab_len (n : Nat) (f : Nat → Nat) : (tab n f).length = n := by simp [tab]
theorem tab_get {n : Nat} (f : Nat → Nat) {i : Nat} (h : i < n) : (tab n f).getD i 0 = f i := by simp [tab, h]
theorem tab_succ (n : Nat) (f : Nat → Nat) : tab (n + 1) f = tab n f ++ [f n] := by simp [tab, List.range_succ]
def mix (o e : Nat → Nat) (i j : Nat) : Nat := if j < i then o j else e j
theorem tab_mix {n i : Nat} (o e : Nat → Nat) (h : i < n) : (tab n (mix o e i)).set i (o i) = tab n (mix o e (i + 1)) := by
  apply List.ext_getElem?
  intro j
  unfold tab mix
  rw [List.getElem?_set]
  by_cases hj : j < n
  · by_cases hij : i = j
    · subst hij; simp [hj]
    · rw [if_neg hij]
      simp only [List.getElem?_map, List.getElem?_range hj, Option.map_some]
      congr 1
      by_cases h1 : j < i
      · rw [if_pos h1, if_pos (by omega)]
      · rw [if_neg h1, if_neg (by omega)]
  · rw [if_neg (by omega)]; simp [hj]
theorem tab_mix0 (n : Nat) (o e : Nat → Nat) : tab n (mix o e 0) = tab n e := by
  unfold tab; apply List.map_congr_left; intro j _; unfold mix; rw [if_neg (by omega)]
theorem tab_mixn (n : Nat) (o e : Nat → Nat) : tab n (mix o e n) = tab n o := by
  unfold tab; apply List.map_congr_left; intro j hj; unfold mix; rw [if_pos (by simpa using hj)]
theorem sumG_congr {f g : Nat → Nat} : ∀ {n : Nat}, (∀ i, i < n → f i = g i) → sumG f n = sumG g n
  | 0, _ => rfl
  | n + 1, h => by unfold sumG; rw [sumG_congr (fun i hi => h i (by omega)), h n (by omega)]
theorem F32s.push {us : List Value} {i : Nat} {f : Nat → Nat} {b : Nat} (h : F32s us (tab i f)) (hb : cn .f32 b = f i) : F32s (us ++ [.float .f32 b]) (tab (i + 1) f) := by
  rw [tab_succ]
  refine h.app ⟨rfl, fun j hj => ?_⟩
  have : j = 0 := by simpa using hj
  subst this
  exact ⟨b, rfl, by rw [hb]; rfl⟩
theorem F32s.put {us : List Value} {n i : Nat} {o e : Nat → Nat} {b : Nat} (h : F32s us (tab n (mix o e i))) (hi : i < n) (hb : cn .f32 b = o i) : F32s (us.set i (.float .f32 b)) (tab n (mix o e (i + 1))) := by
  rw [← tab_mix o e hi]
  refine ⟨by rw [List.length_set, List.length_set]; exact h.1, fun j hj => ?_⟩
  rw [List.length_set] at hj
  by_cases hij : i = j
  · subst hij
    refine ⟨b, by rw [List.getElem?_set, if_pos rfl, if_pos (by rw [h.1]; exact hj)], ?_⟩
    rw [hb]; rw [tab_len] at hj; simp [tab_len, List.getD_eq_getElem?_getD, List.getElem?_set, hj]
  · obtain ⟨c, h1, h2⟩ := h.2 j hj
    refine ⟨c, by rw [List.getElem?_set, if_neg hij]; exact h1, ?_⟩
    rw [h2, List.getD_eq_getElem?_getD, List.getD_eq_getElem?_getD, List.getElem?_set, if_neg hij]

def sM (xs : List Nat) : Nat := xs.getD (gi xs xs.length) 0
def sE (xs : List Nat) (i : Nat) : Nat := expF (fop .sub .f32 (xs.getD i 0) (sM xs))
def sO (xs : List Nat) (i : Nat) : Nat := fop .quo .f32 (sE xs i) (sumG (sE xs) xs.length)
def softF (xs : List Nat) : List Nat := tab xs.length (sO xs)
theorem sE_pos {xs : List Nat} {i : Nat} (h : i < xs.length) : NonPos (fop .sub .f32 (xs.getD i 0) (sM xs)) := sub_neg (gi_max xs xs.length i h)
theorem retFl_own {w w' : World} {xs : List Nat} {n : Nat} {q : Option Addr} {c : Nat} {e : Ending} {vs : List Value} (hl : xs.length = n) (h : w'.ownsRow w.heap.size 49 1 (.slice q n c) n vs) (hf : F32s vs xs) (he : e = .returned (.slice q n c)) (hx : Ext w w') : RetFl w xs e w' := by
  subst hl; exact ⟨q, c, vs, he, h, hf, hx⟩

end Go.Proofs.Ytlimabbeaimdgaa
/- The forward pass: shares, the first program. -/
namespace Go.Proofs.Ytlimabbeaimdgaa
set_option linter.unusedSimpArgs false
set_option linter.unusedVariables false
open Go.RowKit

set_option maxRecDepth 100000 in
set_option maxHeartbeats 4000000 in
theorem exps_any (p : Option Addr) (n c : Nat) (us : List Value) (xs : List Nat) (w : World) (hx : xs.length = n) (h1 : 1 ≤ n) (hn : n ≤ 1073741824) (hp : Cs w p us) (hf : F32s us xs) :
    Calls Try.prog 185 #[.slice p n c] w fun e w' => ∃ (b : Nat) (q : Option Addr) (cq : Nat) (vs : List Value), e = .returned (.tuple #[.float .f32 b, .slice q n cq]) ∧ cn .f32 b = sM xs ∧ w'.ownsRow w.heap.size 49 1 (.slice q n cq) n vs ∧ F32s vs (tab n (sE xs)) ∧ Ext w w' := by
  have X := hid hx
  have hM : sM xs = xs.getD (gi xs n) 0 := by unfold sM; rw [hx]
  have HM := hid hM
  have hP : ∀ i, i < n → NonPos (fop .sub .f32 (xs.getD i 0) (sM xs)) := fun i hi => sE_pos (by rw [hx]; exact hi)
  have C := hid (greatestOf_any p n c us xs w hx h1 (by unfold maxLen; omega) hp hf)
  have hg := gi_lt xs (j := n) (by omega)
  clear hx hM
  generalize gi xs n = k at *
  go_enter Try.func185, Try.ntmps185
  go_wp2_with fail
  refine C.out.mono ?_
  rintro e w1 ⟨rfl, e1⟩
  have k1 := hp.ext e1
  go_wp2_with ((with_reducible show wpList _ _ _ (Oper.mk _ (Op.indexAddr _ _ _) _ _ _ _ :: Oper.mk _ (Op.load _ _) _ _ _ _ :: _) _ _); refine wl_ldF rfl rfl rfl rfl (fun _ => rfl) rfl rfl k1 hf X.out (by omega) (by omega) ?_; intro r0 g0; have G0 := hid g0; clear g0)
  have hb : cn .f32 r0 = sM xs := by have := G0.out; rw [Int.toNat_natCast] at this; rw [this, HM.out]
  have HB2 := hid hb
  clear hb
  have hstart : (w1.alloc (.cells #[] 49)).ownsRow w.heap.size 49 1 (.slice (some ⟨w1.heap.size, 0, none⟩) 0 0) 0 [] := World.ownsRow_made w1 #[] 0 e1.size (by decide) rfl
  have e0 := e1.trans (Ext.alloc w1 (.cells #[] 49))
  go_loopw [5, 16] (fun ov iv wr => ∃ (i : Nat) (vs : List Value) (q : Option Addr) (cq : Nat), i ≤ n ∧ iv = .int .i64 i ∧ ov = .slice q i cq ∧ wr.ownsRow w.heap.size 49 1 (.slice q i cq) i vs ∧ Hid (F32s vs (tab i (sE xs))) ∧ Ext w wr) (fun _ iv _ => n - (intOf iv).toNat)
  case atStart => exact ⟨0, [], _, _, by omega, rfl, rfl, hstart, F32s.nil, e0⟩
  case round =>
    clear hstart e0
    obtain ⟨i, vs, q, cq, hi, rfl, rfl, own0, HF, he⟩ := hrel
    have hB := he.size
    by_cases hlt : i < n
    · have k1 := hp.ext he
      have Hi := hid (hP i hlt)
      go_wp2_with (first | ((with_reducible show wpList _ _ _ (Oper.mk _ (Op.indexAddr _ _ _) _ _ _ _ :: Oper.mk _ (Op.load _ _) _ _ _ _ :: _) _ _); refine wl_ldF rfl rfl rfl rfl (fun _ => rfl) rfl rfl k1 hf X.out (by omega) (by omega) ?_; intro r1 g1; have G1 := hid g1; clear g1) | ((with_reducible show wpList _ _ _ (Oper.mk _ (Op.binOp _ _ _ _ _) _ _ _ _ :: _) _ _); refine wl_fop rfl rfl rfl rfl rfl ?_; intro r2 w2 e2 g2; have G2 := hid g2; clear g2))
      have hv : cn .f32 r2 = fop .sub .f32 (xs.getD i 0) (sM xs) := by rw [G2.out, G1.out, HB2.out, Int.toNat_natCast]
      have HV := hid hv
      clear hv
      refine (ExpNumber_any r2 _ (by rw [HV.out]; exact Hi.out)).mono ?_
      rintro e w3 ⟨r3, rfl, g3, e3⟩
      have hv : cn .f32 r3 = sE xs i := by rw [g3, HV.out]; rfl
      have HV3 := hid hv
      clear hv g3
      replace own0 := own_ext (own_ext own0 e2) e3
      replace he := (he.trans e2).trans e3
      have hB := he.size
      go_wp2_with ((with_reducible show wpList _ _ _ (Oper.mk _ (Op.buildSlice _ _ _) _ _ _ _ :: Oper.mk _ (Op.call _) _ _ _ _ :: _) _ _); refine wl_app1b (u := .float .f32 r3) rfl rfl rfl rfl rfl rfl rfl (fun _ => rfl) (fun _ => rfl) own0 (by unfold maxLen; omega) (by omega) (by omega) ?_; intro g c w4 own4 g4 hg4)
      go_roundw
      case rel =>
        have own5 : w4.ownsRow w.heap.size 49 1 (.slice (some ⟨g, 0, none⟩) (i + 1) c) (i + 1) (vs ++ [.float .f32 r3]) := own4
        exact ⟨i + 1, vs ++ [.float .f32 r3], _, _, by omega, by go_num, rfl, own5, by rw [Hid]; exact HF.out.push HV3.out, he.grown g4 (fun k hk => own_le own0 k hk)⟩
      case measure => simp [intOf]; omega
    · obtain rfl : n = i := by omega
      go_wp2
      go_ret2
      exact ⟨r0, q, cq, vs, rfl, HB2.out, own0, HF.out, he⟩
set_option maxRecDepth 100000 in
set_option maxHeartbeats 4000000 in
theorem softmax_any (p : Option Addr) (n c : Nat) (us : List Value) (xs : List Nat) (w : World) (hx : xs.length = n) (h1 : 1 ≤ n) (hn : n ≤ 1073741824) (hp : Cs w p us) (hf : F32s us xs) :
    Calls Try.prog 156 #[.slice p n c] w (RetFl w (softF xs)) := by
  have X := hid hx
  have C := hid (exps_any p n c us xs w hx h1 hn hp hf)
  clear hx
  go_enter Try.func156, Try.ntmps156
  go_wp2_with fail
  refine C.out.mono ?_
  rintro e w1 ⟨b, q, cq, vs, rfl, _, own0, hF, he⟩
  have HF := hid hF
  clear hF
  go_wp2_with fail
  refine (sumOf_any q n cq vs (tab n (sE xs)) _ (tab_len _ _) (by unfold maxLen; omega) (own_Cs own0) HF.out).mono ?_
  rintro e w1 ⟨r1, rfl, g1, e1⟩
  have hv : cn .f32 r1 = sumG (sE xs) n := by rw [g1]; exact sumG_congr fun i hi => tab_get _ hi
  have HV := hid hv
  clear hv g1
  replace own0 := own_ext own0 e1
  replace he := he.trans e1
  have hO : ∀ i, sO xs i = fop .quo .f32 (sE xs i) (sumG (sE xs) n) := fun i => by unfold sO; rw [X.out]
  have HO := hid hO
  clear hO
  go_wp2_with fail
  go_loopw [16] (fun iv wr => ∃ (i : Nat) (vs : List Value), i ≤ n ∧ iv = .int .i64 i ∧ wr.ownsRow w.heap.size 49 1 (.slice q n cq) n vs ∧ Hid (F32s vs (tab n (mix (sO xs) (sE xs) i))) ∧ Ext w wr) (fun iv _ => n - (intOf iv).toNat)
  case atStart => exact ⟨0, vs, by omega, rfl, own0, by rw [tab_mix0]; exact HF.out, he⟩
  case round =>
    clear own0 he HF
    obtain ⟨i, vs, hi, rfl, own0, HF, he⟩ := hrel
    have hB := he.size
    by_cases hlt : i < n
    · have k1 := own_Cs own0
      have HL := hid (tab_len n (mix (sO xs) (sE xs) i))
      have hg : (tab n (mix (sO xs) (sE xs) i)).getD i 0 = sE xs i := by rw [tab_get _ hlt]; unfold mix; rw [if_neg (by omega)]
      have HG := hid hg
      clear hg
      go_wp2_with (first | ((with_reducible show wpList _ _ _ (Oper.mk _ (Op.indexAddr _ _ _) _ _ _ _ :: Oper.mk _ (Op.load _ _) _ _ _ _ :: _) _ _); refine wl_ldF rfl rfl rfl rfl (fun _ => rfl) rfl rfl k1 HF.out HL.out (by omega) (by omega) ?_; intro r2 g2; have G2 := hid g2; clear g2) | ((with_reducible show wpList _ _ _ (Oper.mk _ (Op.binOp _ _ _ _ _) _ _ _ _ :: _) _ _); refine wl_fop rfl rfl rfl rfl rfl ?_; intro r3 w3 e3 g3; have G3 := hid g3; clear g3; replace own0 := own_ext own0 e3; replace he := he.trans e3) | ((with_reducible show wpList _ _ _ (Oper.mk _ (Op.indexAddr _ _ _) _ _ _ _ :: Oper.mk _ (Op.store _ _ _) _ _ _ _ :: _) _ _); refine wl_idxstore (u := .float .f32 r3) rfl rfl rfl rfl (fun _ => rfl) rfl rfl (fun _ => rfl) rfl own0 (by omega) (by omega) ?_; intro w4 own4 g4))
      go_roundw
      case rel =>
        refine ⟨i + 1, _, by omega, by go_num, own4, ?_, he.grown g4 (fun k hk => own_le own0 k hk)⟩
        rw [Int.toNat_natCast]
        have q2 := G2.out
        rw [Int.toNat_natCast, HG.out] at q2
        exact HF.out.put hlt (by rw [G3.out, q2, HV.out, HO.out])
      case measure => simp [intOf]; omega
    · obtain rfl : n = i := by omega
      rw [tab_mixn] at HF
      go_wp2
      go_ret
      have hS : softF xs = tab n (sO xs) := by unfold softF; rw [X.out]
      rw [hS]
      exact retFl_own (tab_len _ _) own0 HF.out rfl he
end Go.Proofs.Ytlimabbeaimdgaa
