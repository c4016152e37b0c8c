/- Floats up to which not-a-number one has: each operation, on bits with all not-a-numbers made one. -/
import Derived.Test.YtnlhahlegedlaaaRg
import Derived.Laws.FloatArith
namespace Go.Proofs.Ytnlhahlegedlaaa
set_option linter.unusedSimpArgs false
set_option linter.unusedVariables false
open Go.RowKit

/-- The one not-a-number. -/
def nanB : FloatKind → Nat | .f32 => 2143289344 | .f64 => 9221120237041090560
/-- Bits, all not-a-numbers made one. -/
def cn (k : FloatKind) (b : Nat) : Nat := if (k.decode b).isNaN then nanB k else b

def fop (op : BinOp) (k : FloatKind) (x y : Nat) : Nat := (floatBits op k x y).getD (nanB k)
def flt (k : FloatKind) (x y : Nat) : Bool := k.format.order x y == some .lt
def feq (k : FloatKind) (x y : Nat) : Bool := k.format.order x y == some .eq
def fgt (k : FloatKind) (x y : Nat) : Bool := k.format.order x y == some .gt

theorem isNaN_nanB (k : FloatKind) : (k.decode (nanB k)).isNaN = true := by cases k <;> decide +kernel

theorem cn_nan {k : FloatKind} {b : Nat} (h : (k.decode b).isNaN = true) : cn k b = nanB k := by simp [cn, h]
theorem cn_not {k : FloatKind} {b : Nat} (h : (k.decode b).isNaN = false) : cn k b = b := by simp [cn, h]
theorem cn_cn (k : FloatKind) (b : Nat) : cn k (cn k b) = cn k b := by
  by_cases h : (k.decode b).isNaN = true
  · rw [cn_nan h, cn_nan (isNaN_nanB k)]
  · have h' : (k.decode b).isNaN = false := by simpa using h
    rw [cn_not h', cn_not h']
theorem isNaN_cn (k : FloatKind) (b : Nat) : (k.decode (cn k b)).isNaN = (k.decode b).isNaN := by
  by_cases h : (k.decode b).isNaN = true
  · rw [cn_nan h, h, isNaN_nanB]
  · rw [cn_not (by simpa using h)]

theorem eq_nan_of_isNaN {d : Ieee.Datum} (h : d.isNaN = true) : ∃ s f, d = .nan s f := by
  cases d with
  | nan s f => exact ⟨s, f, rfl⟩
  | number _ _ _ => simp [Ieee.Datum.isNaN] at h
  | infinity _ => simp [Ieee.Datum.isNaN] at h

theorem sum_nan_l {x y : Ieee.Datum} (h : x.isNaN = true) : x.sum y = none := by obtain ⟨s, f, rfl⟩ := eq_nan_of_isNaN h; cases y <;> rfl
theorem sum_nan_r {x y : Ieee.Datum} (h : y.isNaN = true) : x.sum y = none := by obtain ⟨s, f, rfl⟩ := eq_nan_of_isNaN h; cases x <;> rfl
theorem opp_nan {x : Ieee.Datum} (h : x.isNaN = true) : x.opposite.isNaN = true := by obtain ⟨s, f, rfl⟩ := eq_nan_of_isNaN h; rfl
theorem product_nan_l {x y : Ieee.Datum} (h : x.isNaN = true) : x.product y = none := by obtain ⟨s, f, rfl⟩ := eq_nan_of_isNaN h; cases y <;> rfl
theorem product_nan_r {x y : Ieee.Datum} (h : y.isNaN = true) : x.product y = none := by obtain ⟨s, f, rfl⟩ := eq_nan_of_isNaN h; cases x <;> rfl
theorem quotient_nan_l {n : Nat} {x y : Ieee.Datum} (h : x.isNaN = true) : x.quotient n y = none := by obtain ⟨s, f, rfl⟩ := eq_nan_of_isNaN h; cases y <;> rfl
theorem quotient_nan_r {n : Nat} {x y : Ieee.Datum} (h : y.isNaN = true) : x.quotient n y = none := by obtain ⟨s, f, rfl⟩ := eq_nan_of_isNaN h; cases x <;> rfl
theorem order_nan_l {x y : Ieee.Datum} (h : x.isNaN = true) : x.order y = none := by obtain ⟨s, f, rfl⟩ := eq_nan_of_isNaN h; cases y <;> rfl
theorem order_nan_r {x y : Ieee.Datum} (h : y.isNaN = true) : x.order y = none := by obtain ⟨s, f, rfl⟩ := eq_nan_of_isNaN h; cases x <;> rfl

theorem decode_eq (k : FloatKind) (b : Nat) : k.format.read b = k.decode b := rfl

theorem floatBits_nan_l {op : BinOp} {k : FloatKind} {x y : Nat} (h : (k.decode x).isNaN = true) : floatBits op k x y = none := by
  unfold floatBits
  split <;> simp [Ieee.Format.add, Ieee.Format.sub, Ieee.Format.mul, Ieee.Format.div, decode_eq, sum_nan_l h, product_nan_l h, quotient_nan_l h]
theorem floatBits_nan_r {op : BinOp} {k : FloatKind} {x y : Nat} (h : (k.decode y).isNaN = true) : floatBits op k x y = none := by
  unfold floatBits
  split <;> simp [Ieee.Format.add, Ieee.Format.sub, Ieee.Format.mul, Ieee.Format.div, decode_eq, sum_nan_r h, sum_nan_r (opp_nan h), product_nan_r h, quotient_nan_r h]

/-- What an operation gives hangs on its operands only up to which not-a-number they are. -/
theorem floatBits_cn (op : BinOp) (k : FloatKind) (x y : Nat) : floatBits op k (cn k x) (cn k y) = floatBits op k x y := by
  by_cases hx : (k.decode x).isNaN = true
  · rw [floatBits_nan_l hx, floatBits_nan_l (by rw [isNaN_cn]; exact hx)]
  · by_cases hy : (k.decode y).isNaN = true
    · rw [floatBits_nan_r hy, floatBits_nan_r (by rw [isNaN_cn]; exact hy)]
    · rw [cn_not (by simpa using hx), cn_not (by simpa using hy)]
theorem fop_cn (op : BinOp) (k : FloatKind) (x y : Nat) : fop op k (cn k x) (cn k y) = fop op k x y := by unfold fop; rw [floatBits_cn]
theorem order_cn (k : FloatKind) (x y : Nat) : k.format.order (cn k x) (cn k y) = k.format.order x y := by
  unfold Ieee.Format.order
  rw [decode_eq, decode_eq, decode_eq, decode_eq]
  by_cases hx : (k.decode x).isNaN = true
  · rw [order_nan_l hx, order_nan_l (by rw [isNaN_cn]; exact hx)]
  · by_cases hy : (k.decode y).isNaN = true
    · rw [order_nan_r hy, order_nan_r (by rw [isNaN_cn]; exact hy)]
    · rw [cn_not (by simpa using hx), cn_not (by simpa using hy)]
theorem flt_cn (k : FloatKind) (x y : Nat) : flt k (cn k x) (cn k y) = flt k x y := by unfold flt; rw [order_cn]
theorem feq_cn (k : FloatKind) (x y : Nat) : feq k (cn k x) (cn k y) = feq k x y := by unfold feq; rw [order_cn]
theorem fgt_cn (k : FloatKind) (x y : Nat) : fgt k (cn k x) (cn k y) = fgt k x y := by unfold fgt; rw [order_cn]

/-- A word that is written is no not-a-number. -/
theorem isNaN_word (f : Ieee.Format) (neg : Bool) {r : Nat} (hr : r ≤ f.infRung) : (f.read (f.word neg r)).isNaN = false := by
  have hlt : r < f.signWeight := Nat.lt_of_le_of_lt hr f.infRung_lt
  have hm : f.word neg r % f.signWeight = r := by
    unfold Ieee.Format.word
    split
    · rw [Nat.add_mod_left]; exact Nat.mod_eq_of_lt hlt
    · exact Nat.mod_eq_of_lt hlt
  unfold Ieee.Format.read
  simp only [hm]
  split
  · rfl
  · split
    · rfl
    · split
      · rfl
      · rename_i h1 h2 h3; exact absurd (Nat.le_antisymm hr (Nat.le_of_not_lt h2)) h3
theorem isNaN_write (f : Ieee.Format) {d : Ieee.Datum} (h : d.isNaN = false) : (f.read (f.write d)).isNaN = false := by
  cases d with
  | nan s t => simp [Ieee.Datum.isNaN] at h
  | infinity s => exact isNaN_word f s (Nat.le_refl _)
  | number s m e =>
    show (f.read (f.nearest s m e)).isNaN = false
    unfold Ieee.Format.nearest
    dsimp only
    split
    · exact isNaN_word f s (Nat.zero_le _)
    · exact isNaN_word f s (Nat.min_le_right _ _)
theorem isNaN_map {f : Ieee.Format} {d : Option Ieee.Datum} (hd : ∀ x, d = some x → x.isNaN = false) {r : Nat} (h : d.map f.write = some r) : (f.read r).isNaN = false := by
  cases d with
  | none => cases h
  | some x => cases h; exact isNaN_write f (hd x rfl)
theorem sum_not {x y z : Ieee.Datum} (h : x.sum y = some z) : z.isNaN = false := by
  cases x <;> cases y <;> simp only [Ieee.Datum.sum] at h
  all_goals first | (cases h; done) | skip
  all_goals first | (cases h; rfl) | (split at h <;> first | (cases h; done) | (cases h; rfl))
theorem product_not {x y z : Ieee.Datum} (h : x.product y = some z) : z.isNaN = false := by
  cases x <;> cases y <;> simp only [Ieee.Datum.product] at h
  all_goals first | (cases h; done) | skip
  all_goals first | (cases h; rfl) | (split at h <;> first | (cases h; done) | (cases h; rfl))
theorem quotient_not {n : Nat} {x y z : Ieee.Datum} (h : x.quotient n y = some z) : z.isNaN = false := by
  cases x <;> cases y <;> simp only [Ieee.Datum.quotient] at h
  all_goals first | (cases h; done) | skip
  all_goals first | (cases h; rfl) | (split at h; (split at h <;> first | (cases h; done) | (cases h; rfl)); (cases h; rfl))
theorem floatBits_not {op : BinOp} {k : FloatKind} {x y r : Nat} (h : floatBits op k x y = some r) : (k.decode r).isNaN = false := by
  unfold floatBits at h
  split at h
  · exact isNaN_map (fun z hz => sum_not hz) h
  · exact isNaN_map (fun z hz => sum_not hz) h
  · exact isNaN_map (fun z hz => product_not hz) h
  · exact isNaN_map (fun z hz => quotient_not hz) h
  · cases h
theorem cn_fop (op : BinOp) (k : FloatKind) (x y : Nat) : cn k (fop op k x y) = fop op k x y := by
  unfold fop
  cases h : floatBits op k x y with
  | none => exact cn_nan (isNaN_nanB k)
  | some r => exact cn_not (floatBits_not h)
theorem nearest_not (k : FloatKind) (n : Int) : (k.decode (k.nearest n)).isNaN = false :=
  isNaN_write k.format (d := .number (n < 0) n.natAbs 0) rfl
theorem cn_nearest (k : FloatKind) (n : Int) : cn k (k.nearest n) = k.nearest n := cn_not (nearest_not k n)

/-- What the tape answers where an operation gives a not-a-number is one. -/
theorem cut_nan32 (t : Nat) : ((FloatKind.f32).decode ((t % 2) * 2 ^ 31 + 0x7f800000 + 1 + (t / 2) % (2 ^ 23 - 1))).isNaN = true := by
  have h1 : (t / 2) % (2 ^ 23 - 1) < 2 ^ 23 - 1 := Nat.mod_lt _ (by decide)
  generalize (t / 2) % (2 ^ 23 - 1) = f at h1
  have h2 : t % 2 < 2 := Nat.mod_lt _ (by decide)
  have hs : (Ieee.single).signWeight = 2147483648 := by decide
  have hi : (Ieee.single).infRung = 2139095040 := by decide
  have hb : (Ieee.single).binade = 8388608 := by decide
  have hm : ((t % 2) * 2 ^ 31 + 0x7f800000 + 1 + f) % 2147483648 = 2139095041 + f := by omega
  show (Ieee.Format.read Ieee.single _).isNaN = true
  unfold Ieee.Format.read
  simp only [hs, hi, hb, hm]
  rw [if_neg (by omega), if_neg (by omega), if_neg (by omega)]
  rfl
theorem cut_nan64 (t : Nat) : ((FloatKind.f64).decode ((t % 2) * 2 ^ 63 + 0x7ff0000000000000 + 1 + (t / 2) % (2 ^ 52 - 1))).isNaN = true := by
  have h1 : (t / 2) % (2 ^ 52 - 1) < 2 ^ 52 - 1 := Nat.mod_lt _ (by decide)
  generalize (t / 2) % (2 ^ 52 - 1) = f at h1
  have h2 : t % 2 < 2 := Nat.mod_lt _ (by decide)
  have hs : (Ieee.double).signWeight = 9223372036854775808 := by decide
  have hi : (Ieee.double).infRung = 9218868437227405312 := by decide
  have hb : (Ieee.double).binade = 4503599627370496 := by decide
  have hm : ((t % 2) * 2 ^ 63 + 0x7ff0000000000000 + 1 + f) % 9223372036854775808 = 9218868437227405313 + f := by omega
  show (Ieee.Format.read Ieee.double _).isNaN = true
  unfold Ieee.Format.read
  simp only [hs, hi, hb, hm]
  rw [if_neg (by omega), if_neg (by omega), if_neg (by omega)]
  rfl

section
variable {P : Program} (w : World)
/-- '+', '-', '*', '/': some bits, right up to which not-a-number. -/
theorem run_farith (op : BinOp) (hop : op = .add ∨ op = .sub ∨ op = .mul ∨ op = .quo) (t : TypeId) (k : FloatKind) (x y : Nat) :
    ∃ r n, (binOp op t (.float k x) (.float k y)).run P w = .ok (.float k r) (w.drewN n) ∧ cn k r = fop op k (cn k x) (cn k y) := by
  rw [fop_cn]
  cases h : floatBits op k x y with
  | some r => exact ⟨r, 0, run_float_arith w op t k x y r h, by rw [cn_not (floatBits_not h)]; simp [fop, h]⟩
  | none =>
    have hf : fop op k x y = nanB k := by simp [fop, h]
    rw [hf]
    have key : ∀ q : Question, q = .nanBits k x y → ∃ r, (binOp op t (.float k x) (.float k y)).run P w = .ok (.float k (q.cut r)) (w.drewN 1) := by
      rintro q rfl
      refine ⟨w.tape w.drawn (.nanBits k x y), ?_⟩
      rcases hop with rfl | rfl | rfl | rfl <;> (simp only [floatBits] at h; simp [binOp, Op.floatArith, h, choose, Sem.run, Question.forced, World.drewN])
    obtain ⟨r, hr⟩ := key _ rfl
    refine ⟨_, 1, hr, cn_nan ?_⟩
    cases k
    · exact cut_nan32 r
    · exact cut_nan64 r

/-- 'float64(x)', 'float32(x)'. -/
def fconv (src : FloatKind) (bits : Nat) (dst : FloatKind) : Nat := (floatToFloatBits src bits dst).getD (nanB dst)
/-- A conversion whose value Go leaves open: of a finite number too great for the narrower kind. -/
def fover (src : FloatKind) (bits : Nat) (dst : FloatKind) : Bool := !(src.decode bits).isNaN && (floatToFloatBits src bits dst).isNone
theorem run_fconv (src dst : TypeId) (s k : FloatKind) (b : Nat) (hs : (P.underlying src).isSome = true) (hd : P.underlying dst = some (.float k)) (ho : fover s (cn s b) k = false) :
    ∃ r n, (convert src dst (.float s b)).run P w = .ok (.float k r) (w.drewN n) ∧ cn k r = fconv s (cn s b) k := by
  by_cases hsk : s = k
  · subst hsk
    have h : floatToFloatBits s b s = some b := by simp [floatToFloatBits]
    exact ⟨b, 0, run_convert_float_float w src dst s s b b hs hd h, by simp [fconv, floatToFloatBits]⟩
  · by_cases hn : (s.decode b).isNaN = true
    · obtain ⟨g, f, hgf⟩ := eq_nan_of_isNaN hn
      have hgf' : s.decode b = .nan g f := hgf
      have hc : fconv s (cn s b) k = nanB k := by
        have h2 := isNaN_cn s b
        rw [hn] at h2
        obtain ⟨g', f', h3⟩ := eq_nan_of_isNaN h2
        simp [fconv, floatToFloatBits, hsk, h3]
      rw [hc]
      obtain ⟨u, hs'⟩ := Option.isSome_iff_exists.1 hs
      have hrun : ∃ r, (convert src dst (.float s b)).run P w = .ok (.float k ((Question.nanConv k b).cut r)) (w.drewN 1) := by
        refine ⟨w.tape w.drawn (.nanConv k b), ?_⟩
        cases u <;> simp [convert, run_underlying hs', run_underlying hd, Conv.floatToFloat, hsk, hgf', choose, Sem.run, Question.forced, World.drewN]
      obtain ⟨r, hr⟩ := hrun
      refine ⟨_, 1, hr, cn_nan ?_⟩
      cases k
      · exact cut_nan32 r
      · exact cut_nan64 r
    · have hcb : cn s b = b := cn_not (by simpa using hn)
      rw [hcb] at ho ⊢
      cases h : floatToFloatBits s b k with
      | none => simp [fover, h, hn] at ho
      | some r =>
        refine ⟨r, 0, run_convert_float_float w src dst s k b r hs hd h, ?_⟩
        have : fconv s b k = r := by simp [fconv, h]
        rw [this]
        refine cn_not ?_
        simp only [floatToFloatBits, hsk, if_false] at h
        split at h
        · cases h
        · cases h; exact isNaN_write k.format rfl
        · split at h
          · cases h
          · cases h; exact isNaN_write k.format rfl
end

theorem isInf_word (f : Ieee.Format) (neg : Bool) {r : Nat} (hr : r < f.infRung) : (f.read (f.word neg r)).isInfinity = false := by
  have hlt : r < f.signWeight := Nat.lt_trans hr f.infRung_lt
  have hm : f.word neg r % f.signWeight = r := by
    unfold Ieee.Format.word
    split
    · rw [Nat.add_mod_left]; exact Nat.mod_eq_of_lt hlt
    · exact Nat.mod_eq_of_lt hlt
  unfold Ieee.Format.read
  simp only [hm]
  split
  · rfl
  · first | rfl | (rw [if_pos hr]; rfl)
theorem cut_le (way : Ieee.Toward) (neg : Bool) (n drop : Nat) : way.cut neg n drop ≤ n + 1 := by
  unfold Ieee.Toward.cut
  dsimp only
  have h1 : n / (1 <<< min drop (n.log2 + 2)) ≤ n := Nat.div_le_self _ _
  have h2 : ∀ b : Bool, b.toNat ≤ 1 := fun b => by cases b <;> decide
  exact Nat.add_le_add h1 (h2 _)
theorem widen_small (s : Bool) {m : Nat} {e : Int} (hm : m < 16777216) (he : e ≤ 104) : ((FloatKind.f64).decode ((FloatKind.f64).encode (.number s m e))).isInfinity = false := by
  show (Ieee.double.read (Ieee.double.nearest s m e)).isInfinity = false
  have hlp : (Ieee.double).leastPlace = -1074 := by decide
  have hfb : (Ieee.double).fractionBits = 52 := rfl
  have hi : (Ieee.double).infRung = 9218868437227405312 := by decide
  have hb : (Ieee.double).binade = 4503599627370496 := by decide
  unfold Ieee.Format.nearest
  dsimp only
  split
  · exact isInf_word _ _ (by rw [hi]; decide)
  · rename_i hm0
    refine isInf_word _ _ (Nat.lt_of_le_of_lt (Nat.min_le_left _ _) ?_)
    rw [hi, hb, hlp, hfb]
    have hlog : m.log2 < 24 := (Nat.log2_lt hm0).2 hm
    have hself : m < 2 ^ (m.log2 + 1) := Nat.lt_log2_self
    generalize hL : max (e + (m.log2 : Int) - (52 : Nat)) (-1074) = last
    have h1 : last ≤ 75 := by omega
    have h2 : (e - last).toNat ≤ 52 - m.log2 := by omega
    have h3 : m <<< (e - last).toNat < 2 ^ 53 := by
      rw [Nat.shiftLeft_eq]
      calc m * 2 ^ (e - last).toNat < 2 ^ (m.log2 + 1) * 2 ^ (e - last).toNat := Nat.mul_lt_mul_of_pos_right hself (Nat.two_pow_pos _)
        _ = 2 ^ (m.log2 + 1 + (e - last).toNat) := by rw [← Nat.pow_add]
        _ ≤ 2 ^ 53 := Nat.pow_le_pow_right (by decide) (by omega)
    have h4 := cut_le .even s (m <<< (e - last).toNat) (last - e).toNat
    have h5 : (last - -1074).toNat ≤ 1149 := by omega
    have h6 : (last - -1074).toNat * 4503599627370496 ≤ 1149 * 4503599627370496 := Nat.mul_le_mul_right _ h5
    omega
/-- A float32 as a float64 is never too great. -/
theorem fover_widen (b : Nat) : fover .f32 b .f64 = false := by
  unfold fover floatToFloatBits
  rw [if_neg (by decide)]
  cases hd : FloatKind.f32.decode b with
  | nan s f => simp [Ieee.Datum.isNaN]
  | infinity s => simp [Ieee.Datum.isNaN]
  | number s m e =>
    have hb : m < 16777216 ∧ e ≤ 104 := by
      have hd' : Ieee.single.read b = .number s m e := hd
      have hs : (Ieee.single).signWeight = 2147483648 := by decide
      have hi : (Ieee.single).infRung = 2139095040 := by decide
      have hbi : (Ieee.single).binade = 8388608 := by decide
      have hlp : (Ieee.single).leastPlace = -149 := by decide
      unfold Ieee.Format.read at hd'
      simp only [hs, hi, hbi, hlp] at hd'
      split at hd'
      · cases hd'; omega
      · split at hd'
        · cases hd'; omega
        · split at hd' <;> cases hd'
    simp [Ieee.Datum.isNaN, widen_small s hb.1 hb.2]
@[go_sem] theorem run_store_float {P : Program} {w : World} {a : Addr} {m : Mode} (k : FloatKind) (b : Nat) : (store a (.float k b) m).run P w = stored P w a (.float k b) m := run_store P w a _ m rfl
end Go.Proofs.Ytnlhahlegedlaaa
