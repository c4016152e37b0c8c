/- Rounding: what is written of a number is monotone, powers of two stay what they are; bounds of sums, products and quotients of doubles. -/
import Derived.Laws.FloatBits
set_option linter.unusedSimpArgs false
set_option linter.unusedVariables false
set_option maxRecDepth 100000
set_option maxHeartbeats 16000000
namespace Go.Proofs.Ytmbckkcgiafagaa.Rnd
open Ieee
def rhe (n g : Nat) : Nat := n / g + (decide (g < 2 * (n % g)) || (g == 2 * (n % g) && n / g % 2 == 1)).toNat
theorem toNat_le (b : Bool) : b.toNat ≤ 1 := by cases b <;> decide
theorem rhe_le (n g : Nat) : rhe n g ≤ n / g + 1 := Nat.add_le_add_left (toNat_le _) _
theorem le_rhe (n g : Nat) : n / g ≤ rhe n g := Nat.le_add_right _ _
theorem rhe_small {n g : Nat} (h : 2 * n < g) : rhe n g = 0 := by
 unfold rhe;have h1 : n / g = 0 := Nat.div_eq_of_lt (by omega);have h2 : n % g = n := Nat.mod_eq_of_lt (by omega);rw [h1,h2];simp;omega
theorem rhe_one (n : Nat) : rhe n 1 = n := by unfold rhe;simp [Nat.mod_one]
theorem rhe_scale {n g c : Nat} (hc : 0 < c) : rhe (n * c) (g * c) = rhe n g := by
 unfold rhe;rw [Nat.mul_div_mul_right _ _ hc,Nat.mul_mod_mul_right,← Nat.mul_assoc]
 have h1 : decide (g * c < 2 * (n % g) * c) = decide (g < 2 * (n % g)) := by
  rw [Bool.eq_iff_iff,decide_eq_true_eq,decide_eq_true_eq,Nat.mul_lt_mul_right hc]
 have h2 : (g * c == 2 * (n % g) * c) = (g == 2 * (n % g)) := by
  rw [Bool.eq_iff_iff,beq_iff_eq,beq_iff_eq,Nat.mul_right_cancel_iff hc]
 rw [h1,h2]
theorem rhe_mono {n m g : Nat} (h : n ≤ m) : rhe n g ≤ rhe m g := by
 by_cases hq : n / g = m / g
 · unfold rhe
   rw [← hq]
   apply Nat.add_le_add_left;have h1 := Nat.div_add_mod n g;have h2 := Nat.div_add_mod m g;rw [← hq] at h2;have h3 : n % g ≤ m % g := by omega
   generalize n % g = a at *;generalize m % g = b at *;generalize n / g = q at *
   by_cases ha : g < 2 * a
   · have hb : g < 2 * b := by omega
     simp [ha,hb]
   · by_cases he : g = 2 * a
     · by_cases hb : g < 2 * b
       · simp only [decide_eq_true hb,Bool.true_or];exact toNat_le _
       · have : a = b := by omega
         rw [this];exact Nat.le_refl _
     · have he' : (g == 2 * a) = false := by simpa using he
       simp [ha,he']
 · have h1 : n / g ≤ m / g := Nat.div_le_div_right h
   have := rhe_le n g;have := le_rhe m g;omega
theorem cnt_mul (m n A B C K : Nat) (h : A + K = B + C) : m * n * 2 ^ A * 2 ^ K = m * 2 ^ B * (n * 2 ^ C) := by
 rw [Nat.mul_assoc,← Nat.pow_add,h,Nat.pow_add,Nat.mul_mul_mul_comm]
theorem quot_shift (m n I J c more k K : Nat) (e1 : I + K = c + 1 + more + J) (h : m * 2 ^ I * 2 ^ K ≤ n * 2 ^ J * 2 ^ k) : m * 2 ^ more * 2 ^ (c + 1) * 2 ^ J ≤ n * 2 ^ k * 2 ^ J := by
 rw [Nat.mul_assoc m,← Nat.pow_add,e1,Nat.pow_add 2 _ J,Nat.pow_add 2 (c + 1) more] at h
 have e2 : m * 2 ^ more * 2 ^ (c + 1) * 2 ^ J = m * (2 ^ (c + 1) * 2 ^ more * 2 ^ J) := by
  rw [Nat.mul_assoc m,Nat.mul_assoc m,Nat.mul_comm (2 ^ more)]
 rw [e2,Nat.mul_right_comm n];exact h
theorem le_pow {v a b : Nat} (h : v < 2 ^ a) (hab : a ≤ b) : v ≤ 2 ^ b := Nat.le_trans (Nat.le_of_lt h) (Nat.pow_le_pow_right (by decide) hab)
theorem le_pow2 {v a b : Nat} (h : v ≤ 2 ^ a) (hab : a ≤ b) : v ≤ 2 ^ b := Nat.le_trans h (Nat.pow_le_pow_right (by decide) hab)
theorem log2_lt_pow (n : Nat) : n < 2 ^ (n.log2 + 1) := Nat.lt_log2_self
theorem cut_eq (s : Bool) (n drop : Nat) : Toward.even.cut s n drop = rhe n (2 ^ drop) := by
 have key : Toward.even.cut s n drop = rhe n (1 <<< min drop (n.log2 + 2)) := rfl;rw [key,Nat.one_shiftLeft]
 by_cases h : drop ≤ n.log2 + 2
 · rw [Nat.min_eq_left h]
 · rw [Nat.min_eq_right (by omega)]
   have h1 := log2_lt_pow n;have h2 : 2 ^ (n.log2 + 2) = 2 * 2 ^ (n.log2 + 1) := by rw [Nat.pow_succ,Nat.mul_comm]
   have h3 : 2 ^ (n.log2 + 2) ≤ 2 ^ drop := Nat.pow_le_pow_right (by decide) (by omega);rw [rhe_small (by omega),rhe_small (by omega)]
def uOf (f : Format) (L V : Nat) : Nat := max (V.log2 - f.fractionBits) L
def rung (f : Format) (L V : Nat) : Nat := if V = 0 then 0 else min ((uOf f L V - L) * f.binade + rhe V (2 ^ uOf f L V)) f.infRung
theorem log2_mul_pow {m : Nat} (hm : m ≠ 0) (k : Nat) : (m * 2 ^ k).log2 = m.log2 + k := by
 have h1 : 2 ^ m.log2 ≤ m := Nat.log2_self_le hm;have h2 : m < 2 ^ (m.log2 + 1) := Nat.lt_log2_self;have h0 : m * 2 ^ k ≠ 0 := Nat.ne_of_gt (Nat.mul_pos (Nat.pos_of_ne_zero hm) (Nat.two_pow_pos k));rw [Nat.log2_eq_iff h0]
 constructor
 · rw [Nat.pow_add];exact Nat.mul_le_mul_right _ h1
 · rw [show m.log2 + k + 1 = (m.log2 + 1) + k by omega,Nat.pow_add];exact Nat.mul_lt_mul_of_pos_right h2 (Nat.two_pow_pos k)
theorem nearest_eq (f : Format) (s : Bool) (m : Nat) (e B : Int) (hB : B ≤ e) (hL : B ≤ f.leastPlace) :
 f.nearest s m e = f.word s (rung f (f.leastPlace - B).toNat (m * 2 ^ (e - B).toNat)) := by
 unfold Format.nearest rung;dsimp only
 by_cases hm : m = 0
 · subst hm;simp
 · have h0 : m * 2 ^ (e - B).toNat ≠ 0 := Nat.ne_of_gt (Nat.mul_pos (Nat.pos_of_ne_zero hm) (Nat.two_pow_pos _))
   rw [if_neg hm,if_neg h0,cut_eq,Nat.shiftLeft_eq]
   congr 2
   have hu : uOf f (f.leastPlace - B).toNat (m * 2 ^ (e - B).toNat) = (max (e + (m.log2 : Int) - (f.fractionBits : Int)) f.leastPlace - B).toNat := by
    unfold uOf;rw [log2_mul_pow hm];omega
   rw [hu];generalize hl : max (e + (m.log2 : Int) - (f.fractionBits : Int)) f.leastPlace = last;have hlB : f.leastPlace ≤ last := by omega
   have e1 : (last - B).toNat - (f.leastPlace - B).toNat = (last - f.leastPlace).toNat := by omega
   rw [e1]
   congr 1
   by_cases hc : last ≤ e
   · have e2 : (last - e).toNat = 0 := by omega
     have e3 : (e - B).toNat = (e - last).toNat + (last - B).toNat := by omega
     rw [e2,e3,Nat.pow_zero,Nat.pow_add,← Nat.mul_assoc];have := rhe_scale (n := m * 2 ^ (e - last).toNat) (g := 1) (Nat.two_pow_pos (last - B).toNat);rw [Nat.one_mul] at this;rw [this]
   · have e2 : (e - last).toNat = 0 := by omega
     have e3 : (last - B).toNat = (last - e).toNat + (e - B).toNat := by omega
     rw [e2,e3,Nat.pow_zero,Nat.mul_one,Nat.pow_add,rhe_scale (Nat.two_pow_pos _)]
theorem uOf_mono (f : Format) (L : Nat) {V W : Nat} (h : V ≤ W) (hV : V ≠ 0) : uOf f L V ≤ uOf f L W := by
 have : V.log2 ≤ W.log2 := by
  have h1 := Nat.log2_self_le hV;rw [Nat.le_log2 (by omega)];omega
 unfold uOf;omega
theorem div_lt_of {V k j : Nat} (h : V < 2 ^ (k + j)) : V / 2 ^ k < 2 ^ j := by
 rw [Nat.div_lt_iff_lt_mul (Nat.two_pow_pos k),Nat.mul_comm,← Nat.pow_add];exact h
theorem kept_le (f : Format) (L V : Nat) : rhe V (2 ^ uOf f L V) ≤ 2 * f.binade := by
 have h1 := log2_lt_pow V;have h2 : V < 2 ^ (uOf f L V + (f.fractionBits + 1)) := Nat.lt_of_lt_of_le h1 (Nat.pow_le_pow_right (by decide) (by unfold uOf;omega));have h3 := div_lt_of h2;have h4 := rhe_le V (2 ^ uOf f L V);have h5 : 2 ^ (f.fractionBits + 1) = 2 * f.binade := by rw [Nat.pow_succ,Nat.mul_comm];rfl
 omega
theorem rung_mono (f : Format) (L : Nat) {V W : Nat} (h : V ≤ W) : rung f L V ≤ rung f L W := by
 unfold rung
 by_cases hV : V = 0
 · rw [if_pos hV];exact Nat.zero_le _
 · rw [if_neg hV,if_neg (by omega)]
   have hu := uOf_mono f L h hV
   suffices (uOf f L V - L) * f.binade + rhe V (2 ^ uOf f L V) ≤ (uOf f L W - L) * f.binade + rhe W (2 ^ uOf f L W) by omega
   by_cases he : uOf f L V = uOf f L W
   · rw [he];exact Nat.add_le_add_left (rhe_mono h) _
   · have hlt : uOf f L V < uOf f L W := by omega
     have hL : L ≤ uOf f L V := by unfold uOf;omega
     have h1 := kept_le f L V;have h2 : uOf f L W = W.log2 - f.fractionBits := by unfold uOf at hlt ⊢;omega
     have h3 : 2 ^ (uOf f L W + f.fractionBits) ≤ W := by
      have : uOf f L W + f.fractionBits = W.log2 := by omega
      rw [this];exact Nat.log2_self_le (by omega)
     have h4 : f.binade ≤ W / 2 ^ uOf f L W := by
      rw [Nat.le_div_iff_mul_le (Nat.two_pow_pos _),Nat.mul_comm];rw [Nat.pow_add] at h3;exact h3
     have h5 := le_rhe W (2 ^ uOf f L W);have h6 : (uOf f L V - L + 1) * f.binade ≤ (uOf f L W - L) * f.binade := Nat.mul_le_mul_right _ (by omega);rw [Nat.add_mul,Nat.one_mul] at h6;omega
def val (f : Format) (L r : Nat) : Nat := if r < f.binade then r * 2 ^ L else (f.binade + r % f.binade) * 2 ^ (L + (r / f.binade - 1))
theorem rung_val (f : Format) (L : Nat) {r : Nat} (hr : r ≤ f.infRung) : rung f L (val f L r) = r := by
 have hb : 0 < f.binade := Nat.two_pow_pos _;unfold val
 by_cases h : r < f.binade
 · rw [if_pos h]
   by_cases h0 : r = 0
   · subst h0;simp [rung]
   · have hne : r * 2 ^ L ≠ 0 := Nat.ne_of_gt (Nat.mul_pos (by omega) (Nat.two_pow_pos L))
     have hu : uOf f L (r * 2 ^ L) = L := by
      unfold uOf;rw [log2_mul_pow h0];have : r.log2 < f.fractionBits := (Nat.log2_lt h0).2 h;omega
     unfold rung;rw [if_neg hne,hu,Nat.sub_self,Nat.zero_mul,Nat.zero_add];have := rhe_scale (n := r) (g := 1) (Nat.two_pow_pos L);rw [Nat.one_mul,rhe_one] at this;rw [this];omega
 · rw [if_neg h]
   have hq : 1 ≤ r / f.binade := (Nat.le_div_iff_mul_le hb).2 (by omega);have hm : r % f.binade < f.binade := Nat.mod_lt _ hb;have hdm := Nat.div_add_mod r f.binade;generalize r / f.binade = q at *;generalize hx : f.binade + r % f.binade = x at *;have hx0 : x ≠ 0 := by omega
   have hlog : x.log2 = f.fractionBits := by
    rw [Nat.log2_eq_iff hx0];have hb2 : f.binade = 2 ^ f.fractionBits := rfl;rw [Nat.pow_succ];omega
   have hne : x * 2 ^ (L + (q - 1)) ≠ 0 := Nat.ne_of_gt (Nat.mul_pos (by omega) (Nat.two_pow_pos _))
   have hu : uOf f L (x * 2 ^ (L + (q - 1))) = L + (q - 1) := by
    unfold uOf;rw [log2_mul_pow hx0,hlog];omega
   unfold rung;rw [if_neg hne,hu];have := rhe_scale (n := x) (g := 1) (Nat.two_pow_pos (L + (q - 1)));rw [Nat.one_mul,rhe_one] at this;rw [this,show L + (q - 1) - L = q - 1 by omega]
   have : (q - 1) * f.binade + f.binade = q * f.binade := by
    rw [← Nat.succ_mul];congr 1;omega
   rw [Nat.mul_comm f.binade q] at hdm;omega
theorem val_mono (f : Format) (L : Nat) {r t : Nat} (ht : t ≤ f.infRung) (h : r ≤ t) : val f L r ≤ val f L t := by
 refine Nat.le_of_not_lt fun hlt => ?_
 have h1 := rung_mono f L (Nat.le_of_lt hlt);rw [rung_val f L ht,rung_val f L (Nat.le_trans h ht)] at h1;have : r = t := by omega
 subst this;omega
theorem rung_le (f : Format) (L : Nat) {V r : Nat} (hr : r ≤ f.infRung) (h : V ≤ val f L r) : rung f L V ≤ r := by
 have := rung_mono f L h;rwa [rung_val f L hr] at this
def Lo (f : Format) : Nat := (f.leastPlace + 4000).toNat
theorem lo_single : Lo single = 3851 := by decide
theorem lo_double : Lo double = 2926 := by decide
def rd (f : Format) (V : Nat) : Nat := val f (Lo f) (rung f (Lo f) V)
def cnt (m : Nat) (e : Int) : Nat := m * 2 ^ (e + 4000).toNat
def Fin (f : Format) (b : Nat) (s : Bool) (v : Nat) : Prop := ∃ m e,f.read b = .number s m e ∧ f.leastPlace ≤ e ∧ cnt m e = v
structure Ok (f : Format) : Prop where
 lp : -4000 ≤ f.leastPlace
theorem ok_single : Ok single := ⟨by decide⟩
theorem ok_double : Ok double := ⟨by decide⟩
theorem word_mod (f : Format) (s : Bool) {r : Nat} (hr : r < f.signWeight) : f.word s r % f.signWeight = r ∧ (f.word s r / f.signWeight % 2 == 1) = s := by
 have h0 : 0 < f.signWeight := by omega
 unfold Format.word
 cases s
 · simp [Nat.mod_eq_of_lt hr,Nat.div_eq_of_lt hr]
 · simp only [if_true]
   rw [Nat.add_mod_left,Nat.mod_eq_of_lt hr,Nat.add_div_left _ h0,Nat.div_eq_of_lt hr];exact ⟨rfl,rfl⟩
theorem read_word (f : Format) (ok : Ok f) (s : Bool) {r : Nat} (hr : r < f.infRung) : Fin f (f.word s r) s (val f (Lo f) r) := by
 have hlt : r < f.signWeight := Nat.lt_trans hr f.infRung_lt;obtain ⟨h1,h2⟩ := word_mod f s hlt;have hL : (f.leastPlace + 4000).toNat = Lo f := rfl;have hlp := ok.lp;unfold Fin Format.read;simp only [h1,h2];unfold val cnt
 split
 · exact ⟨_,_,rfl,Int.le_refl _,by rw [hL]⟩
 · try rw [if_pos hr]
   refine ⟨_,_,rfl,by omega,?_⟩;have : (f.leastPlace + ((r / f.binade - 1 : Nat) : Int) + 4000).toNat = Lo f + (r / f.binade - 1) := by unfold Lo;omega
   rw [this]
theorem nearest_cnt (f : Format) (ok : Ok f) (s : Bool) (m : Nat) {e : Int} (he : -4000 ≤ e) : f.nearest s m e = f.word s (rung f (Lo f) (cnt m e)) := by
 have := nearest_eq f s m e (-4000) he ok.lp;have h1 : (f.leastPlace - -4000).toNat = Lo f := by unfold Lo;congr 1
 have h2 : (e - -4000).toNat = (e + 4000).toNat := by congr 1
 rw [this,h1,h2];rfl
theorem rd_mono (f : Format) {V W : Nat} (h : V ≤ W) : rd f V ≤ rd f W := by
 refine val_mono f _ ?_ (rung_mono f _ h);unfold rung;split
 · exact Nat.zero_le _
 · exact Nat.min_le_right _ _
theorem rd_zero (f : Format) : rd f 0 = 0 := by
 have hb : 0 < f.binade := Nat.two_pow_pos _;unfold rd rung val;rw [if_pos rfl,if_pos hb,Nat.zero_mul]
theorem fin_write (f : Format) (ok : Ok f) (s : Bool) (m : Nat) {e : Int} (he : -4000 ≤ e) (h : rung f (Lo f) (cnt m e) < f.infRung) : Fin f (f.write (.number s m e)) s (rd f (cnt m e)) := by
 show Fin f (f.nearest s m e) s _;rw [nearest_cnt f ok s m he];exact read_word f ok s h
theorem rung_pow (f : Format) (q : Nat) : val f (Lo f) ((q + 1) * f.binade) = 2 ^ (f.fractionBits + (Lo f + q)) := by
 have hb : 0 < f.binade := Nat.two_pow_pos _;have h1 : ¬ (q + 1) * f.binade < f.binade := by rw [Nat.add_mul,Nat.one_mul];omega
 unfold val;rw [if_neg h1,Nat.mul_mod_left,Nat.mul_div_cancel _ hb,Nat.add_zero,Nat.add_sub_cancel,Nat.pow_add 2 f.fractionBits];rfl
theorem rd_pow (f : Format) {q : Nat} (hq : (q + 1) * f.binade ≤ f.infRung) : rd f (2 ^ (f.fractionBits + (Lo f + q))) = 2 ^ (f.fractionBits + (Lo f + q)) := by
 unfold rd;rw [← rung_pow,rung_val f _ hq]
theorem rd_two {k : Nat} (h1 : 2978 ≤ k) (h2 : k ≤ 5023) : rd double (2 ^ k) = 2 ^ k := by
 have hb : (Ieee.double).binade = 4503599627370496 := by decide
 have hi : (Ieee.double).infRung = 9218868437227405312 := by decide
 have hf : (Ieee.double).fractionBits = 52 := rfl;have h := rd_pow double (q := k - 2978) (by rw [hb,hi];omega);rw [hf,lo_double,show 52 + (2926 + (k - 2978)) = k by omega] at h;exact h
theorem rung_dbl {V : Nat} (h : V ≤ 2 ^ 5023) : rung double (Lo double) V < (Ieee.double).infRung := by
 have hb : (Ieee.double).binade = 4503599627370496 := by decide
 have hi : (Ieee.double).infRung = 9218868437227405312 := by decide
 have hf : (Ieee.double).fractionBits = 52 := rfl;have h1 := rung_pow double 2045;rw [hf,lo_double,show 52 + (2926 + 2045) = 5023 by rfl] at h1;have h2 := rung_le double 2926 (V := V) (r := (2045 + 1) * (Ieee.double).binade) (by rw [hb,hi];decide) (by rw [h1];exact h);rw [lo_double];rw [hb] at h2;rw [hi];omega
theorem dbl_write (s : Bool) (m : Nat) {e : Int} (he : -4000 ≤ e) (h : cnt m e ≤ 2 ^ 5023) : Fin double (Ieee.double.write (.number s m e)) s (rd double (cnt m e)) :=
 fin_write double ok_double s m he (rung_dbl h)
theorem rd_le {V k : Nat} (h1 : 2978 ≤ k) (h2 : k ≤ 5023) (h : V ≤ 2 ^ k) : rd double V ≤ 2 ^ k := by
 have := rd_mono double h;rwa [rd_two h1 h2] at this
theorem le_rd {V k : Nat} (h1 : 2978 ≤ k) (h2 : k ≤ 5023) (h : 2 ^ k ≤ V) : 2 ^ k ≤ rd double V := by
 have := rd_mono double h;rwa [rd_two h1 h2] at this
theorem single_write (s : Bool) (m : Nat) {e : Int} (he : -4000 ≤ e) (h : cnt m e ≤ 2 ^ 4127) : (Ieee.single.read (Ieee.single.write (.number s m e))).isInfinity = false := by
 have hb : (Ieee.single).binade = 8388608 := by decide
 have hi : (Ieee.single).infRung = 2139095040 := by decide
 have hf : (Ieee.single).fractionBits = 23 := rfl;have h1 := rung_pow single 253;rw [hf,lo_single,show 23 + (3851 + 253) = 4127 by rfl] at h1;have h2 := rung_le single 3851 (V := cnt m e) (r := (253 + 1) * (Ieee.single).binade) (by rw [hb,hi];decide) (by rw [h1];exact h);obtain ⟨m',e',h3,_⟩ := fin_write single ok_single s m he (by rw [lo_single,hi];rw [hb] at h2;omega);rw [h3];rfl
def sg (s : Bool) (v : Nat) : Int := if s then -(v : Int) else v
theorem signed_sg (s : Bool) (m k c : Nat) : signed s m k * (2 ^ c : Nat) = sg s (m * 2 ^ (k + c)) := by
 unfold signed sg;rw [Nat.shiftLeft_eq,Nat.pow_add,← Nat.mul_assoc]
 split
 · rw [Int.neg_mul];congr 1
 · rfl
theorem cnt_split {i b : Int} (m : Nat) (h1 : b ≤ i) (h2 : -4000 ≤ b) : m * 2 ^ ((i - b).toNat + (b + 4000).toNat) = cnt m i := by
 unfold cnt;have : (i - b).toNat + (b + 4000).toNat = (i + 4000).toNat := by omega
 rw [this]
theorem natAbs_pow (T : Int) (c : Nat) : T.natAbs * 2 ^ c = (T * (2 ^ c : Nat)).natAbs := by rw [Int.natAbs_mul,Int.natAbs_natCast]
theorem dbl_lp : (Ieee.double).leastPlace = -1074 := by decide
theorem dbl_sum {d e : Datum} {s t : Bool} {m n : Nat} {i j : Int} (hd : d = .number s m i) (he : e = .number t n j) (hi : -1074 ≤ i) (hj : -1074 ≤ j) (hb : (sg s (cnt m i) + sg t (cnt n j)).natAbs ≤ 2 ^ 5023) :
 ∃ r,(d.sum e).map Ieee.double.write = some r ∧ Fin double r (if sg s (cnt m i) + sg t (cnt n j) = 0 then s && t else decide (sg s (cnt m i) + sg t (cnt n j) < 0)) (rd double (sg s (cnt m i) + sg t (cnt n j)).natAbs) := by
 subst hd he;have h1 := signed_sg s m (i - min i j).toNat (min i j + 4000).toNat;have h2 := signed_sg t n (j - min i j).toNat (min i j + 4000).toNat;rw [cnt_split m (by omega) (by omega)] at h1;rw [cnt_split n (by omega) (by omega)] at h2;have h3 : (signed s m (i - min i j).toNat + signed t n (j - min i j).toNat) * (2 ^ (min i j + 4000).toNat : Nat) = sg s (cnt m i) + sg t (cnt n j) := by rw [Int.add_mul,h1,h2]
 rw [← h3] at hb ⊢;have hp : (0 : Int) < ((2 ^ (min i j + 4000).toNat : Nat) : Int) := Int.natCast_pos.2 (Nat.two_pow_pos _);simp only [Datum.sum,Option.map_some,Option.some.injEq,exists_eq_left'];generalize signed s m (i - min i j).toNat + signed t n (j - min i j).toNat = T at *
 have hz : (T * ((2 ^ (min i j + 4000).toNat : Nat) : Int) = 0) = (T = 0) := by
  rw [eq_iff_iff];constructor
  · intro h;rcases Int.mul_eq_zero.1 h with h | h
    · exact h
    · omega
  · rintro rfl;exact Int.zero_mul _
 have hn : (T * ((2 ^ (min i j + 4000).toNat : Nat) : Int) < 0) = (T < 0) := by
  rw [eq_iff_iff];constructor
  · intro h
    refine Int.not_le.1 fun h0 => ?_
    have := Int.mul_nonneg h0 (Int.le_of_lt hp);omega
  · intro h;exact Int.mul_neg_of_neg_of_pos h hp
 simp only [hz,hn];rw [← natAbs_pow] at hb ⊢;exact dbl_write _ _ (by omega) hb
theorem dbl_add {x y : Nat} {s t : Bool} {v w : Nat} (hx : Fin double x s v) (hy : Fin double y t w) (hb : (sg s v + sg t w).natAbs ≤ 2 ^ 5023) :
 ∃ r,Ieee.double.add x y = some r ∧ Fin double r (if sg s v + sg t w = 0 then s && t else decide (sg s v + sg t w < 0)) (rd double (sg s v + sg t w).natAbs) := by
 obtain ⟨m,i,h1,h2,rfl⟩ := hx;obtain ⟨n,j,h3,h4,rfl⟩ := hy;rw [dbl_lp] at h2 h4;exact dbl_sum h1 h3 h2 h4 hb
theorem dbl_sub {x y : Nat} {s t : Bool} {v w : Nat} (hx : Fin double x s v) (hy : Fin double y t w) (hb : (sg s v + sg (!t) w).natAbs ≤ 2 ^ 5023) :
 ∃ r,Ieee.double.sub x y = some r ∧ Fin double r (if sg s v + sg (!t) w = 0 then s && !t else decide (sg s v + sg (!t) w < 0)) (rd double (sg s v + sg (!t) w).natAbs) := by
 obtain ⟨m,i,h1,h2,rfl⟩ := hx;obtain ⟨n,j,h3,h4,rfl⟩ := hy;rw [dbl_lp] at h2 h4;exact dbl_sum h1 (e := (Ieee.double.read y).opposite) (by rw [h3];rfl) h2 h4 hb
theorem dbl_mul {x y : Nat} {s t : Bool} {v w V : Nat} (hx : Fin double x s v) (hy : Fin double y t w) (hV : V * 2 ^ 4000 = v * w) (hb : V ≤ 2 ^ 5023) :
 ∃ r,Ieee.double.mul x y = some r ∧ Fin double r (s ^^ t) (rd double V) := by
 obtain ⟨m,i,h1,h2,rfl⟩ := hx;obtain ⟨n,j,h3,h4,rfl⟩ := hy;rw [dbl_lp] at h2 h4;unfold Format.mul;rw [h1,h3];simp only [Datum.product,Option.map_some,Option.some.injEq,exists_eq_left']
 have h5 : cnt (m * n) (i + j) * 2 ^ 4000 = cnt m i * cnt n j := by
  have e : (i + j + 4000).toNat + 4000 = (i + 4000).toNat + (j + 4000).toNat := by omega
  unfold cnt;exact cnt_mul m n _ _ _ 4000 e
 have h6 : cnt (m * n) (i + j) = V := Nat.eq_of_mul_eq_mul_right (Nat.two_pow_pos 4000) (h5.trans hV.symm);rw [← h6] at hb ⊢;exact dbl_write _ _ (by omega) hb
theorem fin_mul {x y : Nat} {s t : Bool} {v w : Nat} {a b : Nat} (hx : Fin double x s v) (hy : Fin double y t w) (ha : v ≤ 2 ^ a) (hb : w ≤ 2 ^ b) (h1 : 6978 ≤ a + b) (h2 : a + b ≤ 9023) :
 ∃ r u,Ieee.double.mul x y = some r ∧ Fin double r (s ^^ t) u ∧ u ≤ 2 ^ (a + b - 4000) ∧ (v = 0 → u = 0) := by
 obtain ⟨m,i,g1,g2,rfl⟩ := hx;obtain ⟨n,j,g3,g4,rfl⟩ := hy;rw [dbl_lp] at g2 g4
 have h5 : cnt (m * n) (i + j) * 2 ^ 4000 = cnt m i * cnt n j := by
  have e : (i + j + 4000).toNat + 4000 = (i + 4000).toNat + (j + 4000).toNat := by omega
  unfold cnt;exact cnt_mul m n _ _ _ 4000 e
 have h6 : cnt (m * n) (i + j) ≤ 2 ^ (a + b - 4000) := by
  refine Nat.le_of_mul_le_mul_right (c := 2 ^ 4000) ?_ (Nat.two_pow_pos 4000);rw [h5,← Nat.pow_add 2 (a + b - 4000) 4000,show a + b - 4000 + 4000 = a + b by omega,Nat.pow_add 2 a b];exact Nat.mul_le_mul ha hb
 obtain ⟨r,h7,h8⟩ := dbl_mul ⟨m,i,g1,by rw [dbl_lp];exact g2,rfl⟩ ⟨n,j,g3,by rw [dbl_lp];exact g4,rfl⟩ h5 (le_pow2 (b := 5023) h6 (by omega));refine ⟨r,_,h7,h8,rd_le (by omega) (by omega) h6,fun h0 => ?_⟩
 have h9 : cnt (m * n) (i + j) = 0 := by
  rw [h0,Nat.zero_mul] at h5;rcases Nat.mul_eq_zero.1 h5 with h | h
  · exact h
  · exact absurd h (Nat.ne_of_gt (Nat.two_pow_pos 4000))
 rw [h9,rd_zero]
theorem dbl_read {x : Nat} {s : Bool} {m : Nat} {e : Int} (h : Ieee.double.read x = .number s m e) : m < 9007199254740992 ∧ -1074 ≤ e ∧ e ≤ 971 := by
 have hs : (Ieee.double).signWeight = 9223372036854775808 := by decide
 have hi : (Ieee.double).infRung = 9218868437227405312 := by decide
 have hb : (Ieee.double).binade = 4503599627370496 := by decide
 unfold Format.read at h;simp only [hs,hi,hb,dbl_lp] at h
 split at h
 · cases h;omega
 · split at h
   · cases h;omega
   · split at h <;> cases h
theorem quot_le {D n T : Nat} (hn : n ≠ 0) (h : D ≤ n * T) : 2 * (D / n) + (D % n != 0).toNat ≤ 2 * T := by
 have h1 := Nat.div_add_mod D n
 have h2 : D / n ≤ T := by
  rw [Nat.mul_comm] at h;exact Nat.div_le_of_le_mul (by rw [Nat.mul_comm];exact h)
 by_cases h3 : D % n = 0
 · simp [h3];omega
 · have h4 : D / n ≠ T := by
    rintro h5;rw [h5] at h1;omega
   have h5 := toNat_le (D % n != 0);omega
theorem fin_div {x y : Nat} {s t : Bool} {v w : Nat} {k : Nat} (hx : Fin double x s v) (hy : Fin double y t w) (hw : w ≠ 0) (h : v * 2 ^ 4000 ≤ w * 2 ^ k) (h1 : 2978 ≤ k) (h2 : k ≤ 5023) :
 ∃ r u,Ieee.double.div x y = some r ∧ Fin double r (s ^^ t) u ∧ u ≤ 2 ^ k ∧ (v = 0 → u = 0) := by
 obtain ⟨m,i,g1,g2,rfl⟩ := hx;obtain ⟨n,j,g3,g4,rfl⟩ := hy;rw [dbl_lp] at g2 g4;have hn : n ≠ 0 := by rintro rfl;exact hw (Nat.zero_mul _)
 unfold Format.div;rw [g1,g3]
 have hq : Datum.quotient (Ieee.double.fractionBits + 2) (.number s m i) (.number t n j) = some (.number (s ^^ t) (2 * ((m <<< (54 + n.log2 - m.log2)) / n) + ((m <<< (54 + n.log2 - m.log2)) % n != 0).toNat) (i - j - (54 + n.log2 - m.log2 : Nat) - 1)) := by
  simp only [Datum.quotient,if_neg hn];rfl
 rw [hq];simp only [Option.map_some,Option.some.injEq,exists_and_left,exists_eq_left'];obtain ⟨b1,b2,b3⟩ := dbl_read g1;obtain ⟨b4,b5,b6⟩ := dbl_read g3
 have hlm : m.log2 ≤ 52 := by
  by_cases h0 : m = 0
  · subst h0;decide
  · have := (Nat.log2_lt h0).2 (show m < 2 ^ 53 from b1);omega
 have hln : n.log2 ≤ 52 := by have := (Nat.log2_lt hn).2 (show n < 2 ^ 53 from b4);omega
 obtain ⟨more,hmore⟩ : ∃ more,more = 54 + n.log2 - m.log2 := ⟨_,rfl⟩;rw [← hmore]
 have hc : cnt (2 * ((m <<< more) / n) + ((m <<< more) % n != 0).toNat) (i - j - more - 1) ≤ 2 ^ k := by
  obtain ⟨c,hcd⟩ : ∃ c,c = (i - j - more - 1 + 4000).toNat := ⟨_,rfl⟩;have e1 : (i + 4000).toNat + 4000 = c + 1 + more + (j + 4000).toNat := by omega
  unfold cnt at h ⊢;rw [← hcd]
  have h3 : m * 2 ^ more * 2 ^ (c + 1) ≤ n * 2 ^ k := by
   refine Nat.le_of_mul_le_mul_right (c := 2 ^ (j + 4000).toNat) ?_ (Nat.two_pow_pos _);exact quot_shift m n _ _ c more k 4000 e1 h
  rw [Nat.shiftLeft_eq]
  by_cases hck : c + 1 ≤ k
  · have h4 : m * 2 ^ more ≤ n * 2 ^ (k - (c + 1)) := by
     refine Nat.le_of_mul_le_mul_right (c := 2 ^ (c + 1)) ?_ (Nat.two_pow_pos _);rw [Nat.mul_assoc n,← Nat.pow_add 2 (k - (c + 1)),show k - (c + 1) + (c + 1) = k by omega];exact h3
    have h5 := Nat.mul_le_mul_right (2 ^ c) (quot_le hn h4)
    have e4 : 2 * 2 ^ (k - (c + 1)) * 2 ^ c = 2 ^ k := by
     rw [Nat.mul_comm 2,← Nat.pow_succ,← Nat.pow_add];congr 1;omega
    rw [e4] at h5;exact h5
  · by_cases h0 : m = 0
    · subst h0;simp
    · exfalso
      have h5 : 2 ^ m.log2 ≤ m := Nat.log2_self_le h0;have h6 : n < 2 ^ (n.log2 + 1) := Nat.lt_log2_self;have h7 : 2 ^ (m.log2 + more) ≤ m * 2 ^ more := by rw [Nat.pow_add];exact Nat.mul_le_mul_right _ h5
      have h8 : 2 ^ (n.log2 + 1) ≤ 2 ^ (m.log2 + more) := Nat.pow_le_pow_right (by decide) (by omega);have h9 : 2 ^ k ≤ 2 ^ (c + 1) := Nat.pow_le_pow_right (by decide) (by omega);have h10 : n * 2 ^ k < m * 2 ^ more * 2 ^ (c + 1) := Nat.lt_of_lt_of_le (Nat.mul_lt_mul_of_pos_right (by omega) (Nat.two_pow_pos k)) (Nat.mul_le_mul_left _ h9);omega
 refine ⟨_,dbl_write _ _ (by omega) (le_pow2 (b := 5023) hc h2),rd_le h1 h2 hc,fun h0 => ?_⟩
 have hm0 : m = 0 := by
  rcases Nat.mul_eq_zero.1 h0 with h | h
  · exact h
  · exact absurd h (Nat.ne_of_gt (Nat.two_pow_pos _))
 subst hm0;have : cnt (2 * (0 <<< more / n) + (0 <<< more % n != 0).toNat) (i - j - more - 1) = 0 := by simp [cnt]
 rw [this,rd_zero]
theorem rd_exact (f : Format) {V : Nat} (h : 2 ^ uOf f (Lo f) V ∣ V) (hr : rung f (Lo f) V < f.infRung) : rd f V = V := by
 have hb : 0 < f.binade := Nat.two_pow_pos _
 by_cases h0 : V = 0
 · subst h0;exact rd_zero f
 obtain ⟨y,hy⟩ := h;have hL : Lo f ≤ uOf f (Lo f) V := by unfold uOf;omega
 have hu2 : uOf f (Lo f) V = Lo f ∨ uOf f (Lo f) V = V.log2 - f.fractionBits := by unfold uOf;omega
 have hlt : V < 2 ^ (V.log2 + 1) := Nat.lt_log2_self;have hle : 2 ^ V.log2 ≤ V := Nat.log2_self_le h0;have hlu : V.log2 ≤ uOf f (Lo f) V + f.fractionBits := by unfold uOf;omega
 have hk : rhe V (2 ^ uOf f (Lo f) V) = y := by
  have := rhe_scale (n := y) (g := 1) (Nat.two_pow_pos (uOf f (Lo f) V));rw [Nat.one_mul,Nat.mul_comm y,← hy,rhe_one] at this;exact this
 have hy2 : y < 2 * f.binade := by
  have h1 : 2 ^ uOf f (Lo f) V * y < 2 ^ uOf f (Lo f) V * (2 * f.binade) := by
   rw [← hy];refine Nat.lt_of_lt_of_le hlt ?_
   have : 2 ^ uOf f (Lo f) V * (2 * f.binade) = 2 ^ (uOf f (Lo f) V + f.fractionBits + 1) := by
    rw [Nat.pow_succ,Nat.pow_add,Nat.mul_comm 2,← Nat.mul_assoc];rfl
   rw [this];exact Nat.pow_le_pow_right (by decide) (by omega)
  exact Nat.lt_of_mul_lt_mul_left h1
 have hrung : rung f (Lo f) V = (uOf f (Lo f) V - Lo f) * f.binade + y := by
  unfold rung at hr ⊢;rw [if_neg h0,hk] at hr ⊢;omega
 unfold rd;rw [hrung];clear hr hrung;rcases Nat.lt_or_ge y f.binade with hyb | hyb
 · have hul : uOf f (Lo f) V = Lo f := by
    rcases hu2 with h | h
    · exact h
    · refine Classical.byContradiction fun hne => ?_
      have h1 : V.log2 = uOf f (Lo f) V + f.fractionBits := by omega
      have h2 : 2 ^ uOf f (Lo f) V * f.binade ≤ 2 ^ uOf f (Lo f) V * y := by
       rw [← hy];have : 2 ^ uOf f (Lo f) V * f.binade = 2 ^ V.log2 := by rw [h1,Nat.pow_add];rfl
       rw [this];exact hle
      have := Nat.le_of_mul_le_mul_left h2 (Nat.two_pow_pos _);omega
   rw [hul,Nat.sub_self,Nat.zero_mul,Nat.zero_add];unfold val;rw [if_pos hyb,Nat.mul_comm];rw [hul] at hy;exact hy.symm
 · obtain ⟨d,hd⟩ : ∃ d,d = uOf f (Lo f) V - Lo f := ⟨_,rfl⟩
   rw [← hd];unfold val;have e1 : d * f.binade + y = (y - f.binade) + (d + 1) * f.binade := by rw [Nat.add_mul,Nat.one_mul];omega
   have e2 : (d * f.binade + y) % f.binade = y - f.binade := by rw [e1,Nat.add_mul_mod_self_right,Nat.mod_eq_of_lt (by omega)]
   have e3 : (d * f.binade + y) / f.binade = d + 1 := by rw [e1,Nat.add_mul_div_right _ _ hb,Nat.div_eq_of_lt (by omega),Nat.zero_add]
   rw [if_neg (by omega),e2,e3,show f.binade + (y - f.binade) = y by omega,show Lo f + (d + 1 - 1) = uOf f (Lo f) V by omega,Nat.mul_comm];exact hy.symm
theorem sgl_read {x : Nat} {s : Bool} {m : Nat} {e : Int} (h : Ieee.single.read x = .number s m e) : m < 16777216 ∧ -149 ≤ e ∧ e ≤ 104 := by
 have hs : (Ieee.single).signWeight = 2147483648 := by decide
 have hi : (Ieee.single).infRung = 2139095040 := by decide
 have hb : (Ieee.single).binade = 8388608 := by decide
 have hl : (Ieee.single).leastPlace = -149 := by decide
 unfold Format.read at h;simp only [hs,hi,hb,hl] at h
 split at h
 · cases h;omega
 · split at h
   · cases h;omega
   · split at h <;> cases h
theorem widen_fin {x : Nat} {s : Bool} {m : Nat} {e : Int} (h : Ieee.single.read x = .number s m e) : Fin double (Ieee.double.write (.number s m e)) s (cnt m e) := by
 obtain ⟨h1,h2,h3⟩ := sgl_read h
 have hlt : cnt m e < 2 ^ 4128 := by
  unfold cnt
  calc m * 2 ^ (e + 4000).toNat < 2 ^ 24 * 2 ^ (e + 4000).toNat := Nat.mul_lt_mul_of_pos_right (by omega) (Nat.two_pow_pos _)
   _ = 2 ^ (24 + (e + 4000).toNat) := by rw [← Nat.pow_add]
   _ ≤ 2 ^ 4128 := Nat.pow_le_pow_right (by decide) (by omega)
 have hle : cnt m e ≤ 2 ^ 5023 := le_pow (a := 4128) (b := 5023) hlt (by decide);have hw := dbl_write s m (e := e) (by omega) hle;rw [rd_exact double ?_ (rung_dbl hle)] at hw
 · exact hw
 · by_cases h0 : m = 0
   · subst h0;unfold cnt;rw [Nat.zero_mul];exact Nat.dvd_zero _
   · have hlog : m.log2 < 24 := (Nat.log2_lt h0).2 (by omega)
     have hu : uOf double (Lo double) (cnt m e) ≤ (e + 4000).toNat := by
      unfold uOf cnt;rw [log2_mul_pow h0,lo_double,show (Ieee.double).fractionBits = 52 from rfl];omega
     exact Nat.dvd_trans (Nat.pow_dvd_pow 2 hu) (Nat.dvd_mul_left _ _)
theorem cmp_scale {a b : Int} {c : Nat} : compare (a * (2 ^ c : Nat)) (b * (2 ^ c : Nat)) = compare a b := by
 have hp : (0 : Int) < ((2 ^ c : Nat) : Int) := Int.natCast_pos.2 (Nat.two_pow_pos c);have h1 : a * ((2 ^ c : Nat) : Int) < b * ((2 ^ c : Nat) : Int) ↔ a < b := ⟨fun h => Int.lt_of_mul_lt_mul_right h (Int.le_of_lt hp),fun h => Int.mul_lt_mul_of_pos_right h hp⟩;have h2 : a * ((2 ^ c : Nat) : Int) = b * ((2 ^ c : Nat) : Int) ↔ a = b := Int.mul_eq_mul_right_iff (by omega);unfold compare;simp only [instOrdInt,compareOfLessAndEq,h1,h2]
theorem fin_order {f : Format} {x y : Nat} {s t : Bool} {v w : Nat} (ok : Ok f) (hx : Fin f x s v) (hy : Fin f y t w) : f.order x y = some (compare (sg s v) (sg t w)) := by
 obtain ⟨m,i,h1,h2,rfl⟩ := hx;obtain ⟨n,j,h3,h4,rfl⟩ := hy;have hl := ok.lp;unfold Format.order;rw [h1,h3];simp only [Datum.order,Option.some.injEq];have e1 := signed_sg s m (i - min i j).toNat (min i j + 4000).toNat;have e2 := signed_sg t n (j - min i j).toNat (min i j + 4000).toNat;rw [cnt_split m (by omega) (by omega)] at e1;rw [cnt_split n (by omega) (by omega)] at e2;rw [← e1,← e2,cmp_scale]
end Go.Proofs.Ytmbckkcgiafagaa.Rnd
