/- A part of the proofs: Fl, Mem. -/
import Derived.Laws.FloatArith
import Derived.Test.YtmbckkcgiafagaaRgFnFu
set_option linter.unusedSimpArgs false
set_option linter.unusedVariables false
set_option maxRecDepth 100000
set_option maxHeartbeats 16000000
namespace Go.Proofs.Ytmbckkcgiafagaa
open Go.RowKit
def nanB : FloatKind → Nat | .f32 => 2143289344 | .f64 => 9221120237041090560
def cn (k : FloatKind) (b : Nat) : Nat := if (k.decode b).isNaN then nanB k else b
def fop (op : BinOp) (k : FloatKind) (x y : Nat) : Nat := (floatBits op k x y).getD (nanB k)
def flt (k : FloatKind) (x y : Nat) : Bool := k.format.order x y == some .lt
def feq (k : FloatKind) (x y : Nat) : Bool := k.format.order x y == some .eq
def fgt (k : FloatKind) (x y : Nat) : Bool := k.format.order x y == some .gt
theorem jav (k : FloatKind) : (k.decode (nanB k)).isNaN = true := by cases k <;> decide +kernel
theorem cn_nan {k : FloatKind} {b : Nat} (h : (k.decode b).isNaN = true) : cn k b = nanB k := by simp [cn,h]
theorem jba {k : FloatKind} {b : Nat} (h : (k.decode b).isNaN = false) : cn k b = b := by simp [cn,h]
theorem jbj (k : FloatKind) (b : Nat) : (k.decode (cn k b)).isNaN = (k.decode b).isNaN := by
 by_cases h : (k.decode b).isNaN = true
 · rw [cn_nan h,h,jav]
 · rw [jba (by simpa using h)]
theorem jaf {d : Ieee.Datum} (h : d.isNaN = true) : ∃ s f,d = .nan s f := by
 cases d with
 | nan s f => exact ⟨s,f,rfl⟩
 | number _ _ _ => simp [Ieee.Datum.isNaN] at h
 | infinity _ => simp [Ieee.Datum.isNaN] at h
theorem sum_nan_l {x y : Ieee.Datum} (h : x.isNaN = true) : x.sum y = none := by obtain ⟨s,f,rfl⟩ := jaf h;cases y <;> rfl
theorem sum_nan_r {x y : Ieee.Datum} (h : y.isNaN = true) : x.sum y = none := by obtain ⟨s,f,rfl⟩ := jaf h;cases x <;> rfl
theorem opp_nan {x : Ieee.Datum} (h : x.isNaN = true) : x.opposite.isNaN = true := by obtain ⟨s,f,rfl⟩ := jaf h;rfl
theorem product_nan_l {x y : Ieee.Datum} (h : x.isNaN = true) : x.product y = none := by obtain ⟨s,f,rfl⟩ := jaf h;cases y <;> rfl
theorem product_nan_r {x y : Ieee.Datum} (h : y.isNaN = true) : x.product y = none := by obtain ⟨s,f,rfl⟩ := jaf h;cases x <;> rfl
theorem quotient_nan_l {n : Nat} {x y : Ieee.Datum} (h : x.isNaN = true) : x.quotient n y = none := by obtain ⟨s,f,rfl⟩ := jaf h;cases y <;> rfl
theorem quotient_nan_r {n : Nat} {x y : Ieee.Datum} (h : y.isNaN = true) : x.quotient n y = none := by obtain ⟨s,f,rfl⟩ := jaf h;cases x <;> rfl
theorem order_nan_l {x y : Ieee.Datum} (h : x.isNaN = true) : x.order y = none := by obtain ⟨s,f,rfl⟩ := jaf h;cases y <;> rfl
theorem order_nan_r {x y : Ieee.Datum} (h : y.isNaN = true) : x.order y = none := by obtain ⟨s,f,rfl⟩ := jaf h;cases x <;> rfl
theorem jby (k : FloatKind) (b : Nat) : k.format.read b = k.decode b := rfl
theorem jaz {op : BinOp} {k : FloatKind} {x y : Nat} (h : (k.decode x).isNaN = true) : floatBits op k x y = none := by
 unfold floatBits
 split <;> simp [Ieee.Format.add,Ieee.Format.sub,Ieee.Format.mul,Ieee.Format.div,jby,sum_nan_l h,product_nan_l h,quotient_nan_l h]
theorem jbx {op : BinOp} {k : FloatKind} {x y : Nat} (h : (k.decode y).isNaN = true) : floatBits op k x y = none := by
 unfold floatBits
 split <;> simp [Ieee.Format.add,Ieee.Format.sub,Ieee.Format.mul,Ieee.Format.div,jby,sum_nan_r h,sum_nan_r (opp_nan h),product_nan_r h,quotient_nan_r h]
theorem floatBits_cn (op : BinOp) (k : FloatKind) (x y : Nat) : floatBits op k (cn k x) (cn k y) = floatBits op k x y := by
 by_cases hx : (k.decode x).isNaN = true
 · rw [jaz hx,jaz (by rw [jbj];exact hx)]
 · by_cases hy : (k.decode y).isNaN = true
   · rw [jbx hy,jbx (by rw [jbj];exact hy)]
   · rw [jba (by simpa using hx),jba (by simpa using hy)]
theorem fop_cn (op : BinOp) (k : FloatKind) (x y : Nat) : fop op k (cn k x) (cn k y) = fop op k x y := by unfold fop;rw [floatBits_cn]
theorem order_cn (k : FloatKind) (x y : Nat) : k.format.order (cn k x) (cn k y) = k.format.order x y := by
 unfold Ieee.Format.order;rw [jby,jby,jby,jby]
 by_cases hx : (k.decode x).isNaN = true
 · rw [order_nan_l hx,order_nan_l (by rw [jbj];exact hx)]
 · by_cases hy : (k.decode y).isNaN = true
   · rw [order_nan_r hy,order_nan_r (by rw [jbj];exact hy)]
   · rw [jba (by simpa using hx),jba (by simpa using hy)]
theorem flt_cn (k : FloatKind) (x y : Nat) : flt k (cn k x) (cn k y) = flt k x y := by unfold flt;rw [order_cn]
theorem feq_cn (k : FloatKind) (x y : Nat) : feq k (cn k x) (cn k y) = feq k x y := by unfold feq;rw [order_cn]
theorem fgt_cn (k : FloatKind) (x y : Nat) : fgt k (cn k x) (cn k y) = fgt k x y := by unfold fgt;rw [order_cn]
theorem isNaN_word (f : Ieee.Format) (neg : Bool) {r : Nat} (hr : r ≤ f.infRung) : (f.read (f.word neg r)).isNaN = false := by
 have hlt : r < f.signWeight := Nat.lt_of_le_of_lt hr f.infRung_lt
 have hm : f.word neg r % f.signWeight = r := by
  unfold Ieee.Format.word
  split
  · rw [Nat.add_mod_left];exact Nat.mod_eq_of_lt hlt
  · exact Nat.mod_eq_of_lt hlt
 unfold Ieee.Format.read;simp only [hm]
 split
 · rfl
 · split
   · rfl
   · split
     · rfl
     · rename_i h1 h2 h3;exact absurd (Nat.le_antisymm hr (Nat.le_of_not_lt h2)) h3
theorem isNaN_write (f : Ieee.Format) {d : Ieee.Datum} (h : d.isNaN = false) : (f.read (f.write d)).isNaN = false := by
 cases d with
 | nan s t => simp [Ieee.Datum.isNaN] at h
 | infinity s => exact isNaN_word f s (Nat.le_refl _)
 | number s m e =>
   show (f.read (f.nearest s m e)).isNaN = false;unfold Ieee.Format.nearest;dsimp only
   split
   · exact isNaN_word f s (Nat.zero_le _)
   · exact isNaN_word f s (Nat.min_le_right _ _)
theorem isNaN_map {f : Ieee.Format} {d : Option Ieee.Datum} (hd : ∀ x,d = some x → x.isNaN = false) {r : Nat} (h : d.map f.write = some r) : (f.read r).isNaN = false := by
 cases d with
 | none => cases h
 | some x => cases h;exact isNaN_write f (hd x rfl)
theorem sum_not {x y z : Ieee.Datum} (h : x.sum y = some z) : z.isNaN = false := by
 cases x <;> cases y <;> simp only [Ieee.Datum.sum] at h
 all_goals first | (cases h;done) | skip
 all_goals first | (cases h;rfl) | (split at h <;> first | (cases h;done) | (cases h;rfl))
theorem product_not {x y z : Ieee.Datum} (h : x.product y = some z) : z.isNaN = false := by
 cases x <;> cases y <;> simp only [Ieee.Datum.product] at h
 all_goals first | (cases h;done) | skip
 all_goals first | (cases h;rfl) | (split at h <;> first | (cases h;done) | (cases h;rfl))
theorem quotient_not {n : Nat} {x y z : Ieee.Datum} (h : x.quotient n y = some z) : z.isNaN = false := by
 cases x <;> cases y <;> simp only [Ieee.Datum.quotient] at h
 all_goals first | (cases h;done) | skip
 all_goals first | (cases h;rfl) | (split at h;(split at h <;> first | (cases h;done) | (cases h;rfl));(cases h;rfl))
theorem floatBits_not {op : BinOp} {k : FloatKind} {x y r : Nat} (h : floatBits op k x y = some r) : (k.decode r).isNaN = false := by
 unfold floatBits at h
 split at h
 · exact isNaN_map (fun z hz => sum_not hz) h
 · exact isNaN_map (fun z hz => sum_not hz) h
 · exact isNaN_map (fun z hz => product_not hz) h
 · exact isNaN_map (fun z hz => quotient_not hz) h
 · cases h
theorem nearest_not (k : FloatKind) (n : Int) : (k.decode (k.nearest n)).isNaN = false :=
 isNaN_write k.format (d := .number (n < 0) n.natAbs 0) rfl
theorem cn_nearest (k : FloatKind) (n : Int) : cn k (k.nearest n) = k.nearest n := jba (nearest_not k n)
theorem cut_nan32 (t : Nat) : ((FloatKind.f32).decode ((t % 2) * 2 ^ 31 + 0x7f800000 + 1 + (t / 2) % (2 ^ 23 - 1))).isNaN = true := by
 have h1 : (t / 2) % (2 ^ 23 - 1) < 2 ^ 23 - 1 := Nat.mod_lt _ (by decide);generalize (t / 2) % (2 ^ 23 - 1) = f at h1;have h2 : t % 2 < 2 := Nat.mod_lt _ (by decide);have hs : (Ieee.single).signWeight = 2147483648 := by decide
 have hi : (Ieee.single).infRung = 2139095040 := by decide
 have hb : (Ieee.single).binade = 8388608 := by decide
 have hm : ((t % 2) * 2 ^ 31 + 0x7f800000 + 1 + f) % 2147483648 = 2139095041 + f := by omega
 show (Ieee.Format.read Ieee.single _).isNaN = true;unfold Ieee.Format.read;simp only [hs,hi,hb,hm];rw [if_neg (by omega),if_neg (by omega),if_neg (by omega)];rfl
theorem cut_nan64 (t : Nat) : ((FloatKind.f64).decode ((t % 2) * 2 ^ 63 + 0x7ff0000000000000 + 1 + (t / 2) % (2 ^ 52 - 1))).isNaN = true := by
 have h1 : (t / 2) % (2 ^ 52 - 1) < 2 ^ 52 - 1 := Nat.mod_lt _ (by decide);generalize (t / 2) % (2 ^ 52 - 1) = f at h1;have h2 : t % 2 < 2 := Nat.mod_lt _ (by decide);have hs : (Ieee.double).signWeight = 9223372036854775808 := by decide
 have hi : (Ieee.double).infRung = 9218868437227405312 := by decide
 have hb : (Ieee.double).binade = 4503599627370496 := by decide
 have hm : ((t % 2) * 2 ^ 63 + 0x7ff0000000000000 + 1 + f) % 9223372036854775808 = 9218868437227405313 + f := by omega
 show (Ieee.Format.read Ieee.double _).isNaN = true;unfold Ieee.Format.read;simp only [hs,hi,hb,hm];rw [if_neg (by omega),if_neg (by omega),if_neg (by omega)];rfl
section
variable {P : Program} (w : World)
theorem run_farith (op : BinOp) (hop : op = .add ∨ op = .sub ∨ op = .mul ∨ op = .quo) (t : TypeId) (k : FloatKind) (x y : Nat) :
 ∃ r n,(binOp op t (.float k x) (.float k y)).run P w = .ok (.float k r) (w.drewN n) ∧ cn k r = fop op k (cn k x) (cn k y) := by
 rw [fop_cn]
 cases h : floatBits op k x y with
 | some r => exact ⟨r,0,run_float_arith w op t k x y r h,by rw [jba (floatBits_not h)];simp [fop,h]⟩
 | none =>
   have hf : fop op k x y = nanB k := by simp [fop,h]
   rw [hf]
   have key : ∀ q : Question,q = .nanBits k x y → ∃ r,(binOp op t (.float k x) (.float k y)).run P w = .ok (.float k (q.cut r)) (w.drewN 1) := by
    rintro q rfl
    refine ⟨w.tape w.drawn (.nanBits k x y),?_⟩;rcases hop with rfl | rfl | rfl | rfl <;> (simp only [floatBits] at h;simp [binOp,Op.floatArith,h,choose,Sem.run,Question.forced,World.drewN])
   obtain ⟨r,hr⟩ := key _ rfl;refine ⟨_,1,hr,cn_nan ?_⟩
   cases k
   · exact cut_nan32 r
   · exact cut_nan64 r
def jam (src : FloatKind) (bits : Nat) (dst : FloatKind) : Nat := (floatToFloatBits src bits dst).getD (nanB dst)
def fover (src : FloatKind) (bits : Nat) (dst : FloatKind) : Bool := !(src.decode bits).isNaN && (floatToFloatBits src bits dst).isNone
theorem run_fconv (src dst : TypeId) (s k : FloatKind) (b : Nat) (hs : (P.underlying src).isSome = true) (hd : P.underlying dst = some (.float k)) (ho : fover s (cn s b) k = false) :
 ∃ r n,(convert src dst (.float s b)).run P w = .ok (.float k r) (w.drewN n) ∧ cn k r = jam s (cn s b) k := by
 by_cases hsk : s = k
 · subst hsk
   have h : floatToFloatBits s b s = some b := by simp [floatToFloatBits]
   exact ⟨b,0,run_convert_float_float w src dst s s b b hs hd h,by simp [jam,floatToFloatBits]⟩
 · by_cases hn : (s.decode b).isNaN = true
   · obtain ⟨g,f,hgf⟩ := jaf hn
     have hgf' : s.decode b = .nan g f := hgf
     have hc : jam s (cn s b) k = nanB k := by
      have h2 := jbj s b;rw [hn] at h2;obtain ⟨g',f',h3⟩ := jaf h2;simp [jam,floatToFloatBits,hsk,h3]
     rw [hc];obtain ⟨u,hs'⟩ := Option.isSome_iff_exists.1 hs
     have hrun : ∃ r,(convert src dst (.float s b)).run P w = .ok (.float k ((Question.nanConv k b).cut r)) (w.drewN 1) := by
      refine ⟨w.tape w.drawn (.nanConv k b),?_⟩
      cases u <;> simp [convert,run_underlying hs',run_underlying hd,Conv.floatToFloat,hsk,hgf',choose,Sem.run,Question.forced,World.drewN]
     obtain ⟨r,hr⟩ := hrun;refine ⟨_,1,hr,cn_nan ?_⟩
     cases k
     · exact cut_nan32 r
     · exact cut_nan64 r
   · have hcb : cn s b = b := jba (by simpa using hn)
     rw [hcb] at ho ⊢
     cases h : floatToFloatBits s b k with
     | none => simp [fover,h,hn] at ho
     | some r =>
       refine ⟨r,0,run_convert_float_float w src dst s k b r hs hd h,?_⟩;have : jam s b k = r := by simp [jam,h]
       rw [this];refine jba ?_;simp only [floatToFloatBits,hsk,if_false] at h
       split at h
       · cases h
       · cases h;exact isNaN_write k.format rfl
       · split at h
         · cases h
         · cases h;exact isNaN_write k.format rfl
end
theorem isInf_word (f : Ieee.Format) (neg : Bool) {r : Nat} (hr : r < f.infRung) : (f.read (f.word neg r)).isInfinity = false := by
 have hlt : r < f.signWeight := Nat.lt_trans hr f.infRung_lt
 have hm : f.word neg r % f.signWeight = r := by
  unfold Ieee.Format.word
  split
  · rw [Nat.add_mod_left];exact Nat.mod_eq_of_lt hlt
  · exact Nat.mod_eq_of_lt hlt
 unfold Ieee.Format.read;simp only [hm]
 split
 · rfl
 · first | rfl | (rw [if_pos hr];rfl)
theorem cut_le (way : Ieee.Toward) (neg : Bool) (n drop : Nat) : way.cut neg n drop ≤ n + 1 := by
 unfold Ieee.Toward.cut;dsimp only;have h1 : n / (1 <<< min drop (n.log2 + 2)) ≤ n := Nat.div_le_self _ _;have h2 : ∀ b : Bool,b.toNat ≤ 1 := fun b => by cases b <;> decide
 exact Nat.add_le_add h1 (h2 _)
theorem widen_small (s : Bool) {m : Nat} {e : Int} (hm : m < 16777216) (he : e ≤ 104) : ((FloatKind.f64).decode ((FloatKind.f64).encode (.number s m e))).isInfinity = false := by
 show (Ieee.double.read (Ieee.double.nearest s m e)).isInfinity = false;have hlp : (Ieee.double).leastPlace = -1074 := by decide
 have hfb : (Ieee.double).fractionBits = 52 := rfl;have hi : (Ieee.double).infRung = 9218868437227405312 := by decide
 have hb : (Ieee.double).binade = 4503599627370496 := by decide
 unfold Ieee.Format.nearest;dsimp only
 split
 · exact isInf_word _ _ (by rw [hi];decide)
 · rename_i hm0
   refine isInf_word _ _ (Nat.lt_of_le_of_lt (Nat.min_le_left _ _) ?_);rw [hi,hb,hlp,hfb];have hlog : m.log2 < 24 := (Nat.log2_lt hm0).2 hm;have hself : m < 2 ^ (m.log2 + 1) := Nat.lt_log2_self;generalize hL : max (e + (m.log2 : Int) - (52 : Nat)) (-1074) = last;have h1 : last ≤ 75 := by omega
   have h2 : (e - last).toNat ≤ 52 - m.log2 := by omega
   have h3 : m <<< (e - last).toNat < 2 ^ 53 := by
    rw [Nat.shiftLeft_eq]
    calc m * 2 ^ (e - last).toNat < 2 ^ (m.log2 + 1) * 2 ^ (e - last).toNat := Nat.mul_lt_mul_of_pos_right hself (Nat.two_pow_pos _)
     _ = 2 ^ (m.log2 + 1 + (e - last).toNat) := by rw [← Nat.pow_add]
     _ ≤ 2 ^ 53 := Nat.pow_le_pow_right (by decide) (by omega)
   have h4 := cut_le .even s (m <<< (e - last).toNat) (last - e).toNat;have h5 : (last - -1074).toNat ≤ 1149 := by omega
   have h6 : (last - -1074).toNat * 4503599627370496 ≤ 1149 * 4503599627370496 := Nat.mul_le_mul_right _ h5;omega
theorem jbd (b : Nat) : fover .f32 b .f64 = false := by
 unfold fover floatToFloatBits;rw [if_neg (by decide)]
 cases hd : FloatKind.f32.decode b with
 | nan s f => simp [Ieee.Datum.isNaN]
 | infinity s => simp [Ieee.Datum.isNaN]
 | number s m e =>
   have hb : m < 16777216 ∧ e ≤ 104 := by
    have hd' : Ieee.single.read b = .number s m e := hd;have hs : (Ieee.single).signWeight = 2147483648 := by decide
    have hi : (Ieee.single).infRung = 2139095040 := by decide
    have hbi : (Ieee.single).binade = 8388608 := by decide
    have hlp : (Ieee.single).leastPlace = -149 := by decide
    unfold Ieee.Format.read at hd';simp only [hs,hi,hbi,hlp] at hd'
    split at hd'
    · cases hd';omega
    · split at hd'
      · cases hd';omega
      · split at hd' <;> cases hd'
   simp [Ieee.Datum.isNaN,widen_small s hb.1 hb.2]
@[go_sem] theorem run_store_float {P : Program} {w : World} {a : Addr} {m : Mode} (k : FloatKind) (b : Nat) : (store a (.float k b) m).run P w = stored P w a (.float k b) m := run_store P w a _ m rfl
def adr (p : Option Addr) (i : Nat) : Addr := (p.getD ⟨0,0,none⟩).add i
theorem jbw (a : Addr) (i : Nat) : adr (some a) i = a.add i := rfl
theorem jap (g i : Nat) : adr (some ⟨g,0,none⟩) i = ⟨g,i,none⟩ := by rw [jbw,Addr.add_lit,Nat.zero_add]
theorem add_add (a : Addr) (i j : Nat) : (a.add i).add j = a.add (i + j) := by
 unfold Addr.add
 by_cases hi : i = 0
 · subst hi;simp
 · by_cases hj : j = 0
   · subst hj;simp [hi]
   · simp [hi,hj,Nat.add_assoc]
theorem adr_shift (a : Addr) (l i : Nat) : adr (some (a.add l)) i = adr (some a) (l + i) := by rw [jbw,jbw,add_add]
theorem adr_block (p : Option Addr) (i j : Nat) : (adr p i).block = (adr p j).block := by
 unfold adr Addr.add;split <;> split <;> rfl
structure Cs (w : World) (p : Option Addr) (vs : List Value) : Prop where
 cell : ∀ i u,vs[i]? = some u → w.cell? (adr p i) = some u
 isS : vs ≠ [] → p.isSome = true
theorem Cs.nil (w : World) (p : Option Addr) : Cs w p [] := ⟨fun i u h => by simp at h,fun h => (h rfl).elim⟩
theorem Cs.ext {w w' : World} {p : Option Addr} {vs : List Value} (h : Cs w p vs) (e : Ext w w') : Cs w' p vs :=
 ⟨fun i u hu => e.cell (h.cell i u hu),h.isS⟩
theorem Cs.take {w : World} {p : Option Addr} {vs : List Value} (h : Cs w p vs) (n : Nat) : Cs w p (vs.take n) :=
 ⟨fun i u hu => h.cell i u (by rw [List.getElem?_take] at hu;split at hu <;> first | exact hu | cases hu),fun hn => h.isS fun h0 => hn (by simp [h0])⟩
theorem Cs.drop {w : World} {a : Addr} {vs : List Value} (h : Cs w (some a) vs) (l : Nat) : Cs w (some (a.add l)) (vs.drop l) :=
 ⟨fun i u hu => by rw [adr_shift];exact h.cell _ _ (by rw [← hu,List.getElem?_drop]),fun _ => rfl⟩
theorem Cs.blk {w : World} {p : Option Addr} {vs : List Value} (h : Cs w p vs) (hn : vs ≠ []) : (adr p 0).block < w.heap.size := by
 cases vs with
 | nil => exact (hn rfl).elim
 | cons v vs => exact lt_of_cell (h.cell 0 v rfl)
theorem Cs.keep {w w' : World} {p : Option Addr} {vs : List Value} (h : Cs w p vs) (e : vs ≠ [] → w'.heap[(adr p 0).block]? = w.heap[(adr p 0).block]?) : Cs w' p vs :=
 ⟨fun i u hu => by
  have hn : vs ≠ [] := by intro h0;subst h0;simp at hu
  rw [World.cell?_of_block (w := w) (by rw [adr_block p i 0];exact e hn)];exact h.cell i u hu,h.isS⟩
class SlTy (P : Program) (t : TypeId) (e : outParam TypeId) (s : outParam Nat) (z : outParam Value) (b : outParam Nat) : Prop where
 und : P.underlying t = some (.slice e)
 inf : (P.info? e).map (fun i => (i.zero,i.size,i.bytes)) = some (some z,s,b)
 zs : z.cells.size = s
 pos : 0 < s
 few : s ≤ 16777216
def notAgg : TypeDesc → Bool
 | .struct _ => false
 | .array _ _ => false
 | _ => true
class Cell1 (P : Program) (t : TypeId) : Prop where
 und : (P.underlying t).map notAgg = some true
 inf : (P.info? t).map (fun i => i.size) = some 1
def F32s (vs : List Value) (xs : List Nat) : Prop := vs.length = xs.length ∧ ∀ i,i < xs.length → ∃ b,vs[i]? = some (.float .f32 b) ∧ cn .f32 b = xs.getD i 0
theorem own_cs {w : World} {B e s n c g : Nat} {vs : List Value} (h : w.ownsRow B e s (.slice (some ⟨g,0,none⟩) n c) n vs) : Cs w (some ⟨g,0,none⟩) vs := by
 refine ⟨fun i u hu => ?_,fun _ => rfl⟩;have hi : i < n * s := by rw [← h.1];exact (List.getElem?_eq_some_iff.1 hu).1
 rw [jap,h.cellAt i hi];exact hu
theorem jak {w w' : World} {B e s n : Nat} {v : Value} {vs : List Value} (h : w.ownsRow B e s v n vs) (x : Ext w w') : w'.ownsRow B e s v n vs := by
 obtain ⟨h1,h2⟩ := h;refine ⟨h1,?_⟩;rcases h2 with h2 | ⟨g,cap,cur,hv,hg,hh,r⟩
 · exact .inl h2
 · have hlt : g < w.heap.size := by
    rcases Nat.lt_or_ge g w.heap.size with h' | h'
    · exact h'
    · simp [Array.getElem?_eq_none h'] at hh
   exact .inr ⟨g,cap,cur,hv,hg,by rw [x.block g hlt];exact hh,r⟩
theorem ja0 {w : World} {B B' e s n : Nat} {v : Value} {vs : List Value} (h : w.ownsRow B e s v n vs) (hB : B' ≤ B) : w.ownsRow B' e s v n vs := by
 obtain ⟨h1,h2⟩ := h;refine ⟨h1,?_⟩;rcases h2 with h2 | ⟨g,cap,cur,hv,hg,hh,r⟩
 · exact .inl h2
 · exact .inr ⟨g,cap,cur,hv,by omega,hh,r⟩
theorem jah {w : World} {B e s n : Nat} {v : Value} {vs : List Value} (h : w.ownsRow B e s v n vs) : ∀ k,v.ownBlock = some k → B ≤ k := fun k hk => (h.lt k hk).1
theorem own_lt {w : World} {B e s n : Nat} {v : Value} {vs : List Value} (h : w.ownsRow B e s v n vs) : ∀ k,v.ownBlock = some k → k < w.heap.size := fun k hk => (h.lt k hk).2
theorem Ext.grown {w0 w w' : World} (h : Ext w0 w) {row : Option Nat} (hg : w.grownBy w' row) (hr : ∀ k,row = some k → w0.heap.size ≤ k) : Ext w0 w' :=
 Ext.of_below ((h.below).grown hg h.size hr)
theorem Ext.setCell {w0 w : World} (h : Ext w0 w) {p : Addr} (hp : w0.heap.size ≤ p.block) (u : Value) : Ext w0 (w.setCell p u) :=
 Ext.of_below ((h.below).setCell hp u)
section
variable {P : Program} {w : World} {ops : Array Oper} {rest : List Oper} {o o1 o2 : Oper} {a : Act} {Q : Exit → Act → World → Prop}
theorem run_indexAt {t e s b : Nat} {z : Value} [T : SlTy P t e s z b] {p : Option Addr} {n c : Nat} {k : IntKind} {i : Int} (hp : p.isSome = true) (h0 : 0 ≤ i) (hn : i < n) :
 (Instr.indexAt t (.slice p n c) (.int k i)).run P w = .ok (.pointer (some (adr p (i.toNat * s)))) w := by
 obtain ⟨q,rfl⟩ := Option.isSome_iff_exists.1 hp;obtain ⟨ti,hi,hzz⟩ := Option.map_eq_some_iff.1 T.inf;simp only [Prod.mk.injEq] at hzz;have hu := T.und;simp [Instr.indexAt,asIntOf,run_underlying hu,h0,hn,sizeOf,typeInfo,hi,hzz.2.1,adr]
theorem run_load1 {t : TypeId} [T : Cell1 P t] {q : Addr} {u : Value} (h : w.cell? q = some u) : (Instr.loadAt t (.pointer (some q))).run P w = .ok u w := by
 obtain ⟨d,hd,hk⟩ := Option.map_eq_some_iff.1 T.und
 cases d <;> first | (cases hk;done) | simp [Instr.loadAt,Instr.sureAddr,loadVar,isAgg,run_underlying hd,load,Sem.run,h]
theorem run_store1 {t : TypeId} [T : Cell1 P t] {q : Addr} {u v : Value} (h : w.cell? q = some v) (hf : w.frozen? q = false) (h1 : u.oneCell' = true) :
 (Instr.storeAt t (.pointer (some q)) u).run P w = .ok () (w.setCell q u) := by
 obtain ⟨i,hi,hs⟩ := Option.map_eq_some_iff.1 T.inf
 cases u <;> first | (cases h1;done) | simp [Instr.storeAt,Instr.sureAddr,storeVar,sizeOf,typeInfo,hi,hs,Value.cells,storeCells,store,Sem.run,Addr.add,h,hf]
theorem jbi {v : Value} {w' : World} (hg : o.guard = none) (hr : (execOp a.eval o).run P w = .ok (.value v) w') (h : wpList P ops Q rest (a.put o.dst v) w') : wpList P ops Q (o :: rest) a w :=
 wpList_plain hg fun K hK => by unfold Oper.wp;rw [hr];exact hK _ _ h
theorem wl_skip {w' : World} (hg : o.guard = none) (hr : (execOp a.eval o).run P w = .ok .skip w') (h : wpList P ops Q rest (a.put o.dst undef) w') : wpList P ops Q (o :: rest) a w :=
 wpList_plain hg fun K hK => by unfold Oper.wp;rw [hr];exact hK _ _ h
theorem wl_idx {t e s b : Nat} {z : Value} [SlTy P t e s z b] {x ix : Operand} (hg : o.guard = none) (ho : o.op = .indexAddr t x ix) {p : Option Addr} {n c : Nat} {k : IntKind} {i : Int}
 (hx : a.eval x = .slice p n c) (hi : a.eval ix = .int k i) (hp : p.isSome = true) (h0 : 0 ≤ i) (hn : i < n)
 (h : wpList P ops Q rest (a.put o.dst (.pointer (some (adr p (i.toNat * s))))) w) : wpList P ops Q (o :: rest) a w :=
 jbi hg (by simp [execOp,ho,hx,hi,run_indexAt hp h0 hn]) h
theorem wl_load1 {t : TypeId} [Cell1 P t] {x : Operand} (hg : o.guard = none) (ho : o.op = .load t x) {q : Addr} {u : Value} (hx : a.eval x = .pointer (some q)) (hc : w.cell? q = some u)
 (h : wpList P ops Q rest (a.put o.dst u) w) : wpList P ops Q (o :: rest) a w :=
 jbi hg (by simp [execOp,ho,hx,run_load1 hc]) h
theorem wl_idxload {t e b : Nat} {z : Value} [SlTy P t e 1 z b] [Cell1 P e] {x ix : Operand} {d : Tmp} (hg1 : o1.guard = none) (ho1 : o1.op = .indexAddr t x ix) (hg2 : o2.guard = none) (ho2 : o2.op = .load e (.tmp d))
 {p : Option Addr} {n c : Nat} {k : IntKind} {i : Int} (hd : ∀ y,(a.put o1.dst y).eval (.tmp d) = y)
 (hx : a.eval x = .slice p n c) (hi : a.eval ix = .int k i) {vs : List Value} (hc : Cs w p vs) (hvn : vs.length = n) (h0 : 0 ≤ i) (hn : i < n)
 (h : ∀ u,vs[i.toNat]? = some u → wpList P ops Q rest ((a.put o1.dst (.pointer (some (adr p i.toNat)))).put o2.dst u) w) : wpList P ops Q (o1 :: o2 :: rest) a w := by
 have hlt : i.toNat < vs.length := by omega
 have hu : vs[i.toNat]? = some vs[i.toNat] := by simp [hlt]
 refine wl_idx hg1 ho1 hx hi (hc.isS (by intro h;simp [h] at hlt)) h0 hn ?_;rw [Nat.mul_one];exact wl_load1 hg2 ho2 (hd _) (hc.cell _ _ hu) (h _ hu)
theorem own_some {w : World} {B e s n c : Nat} {p : Option Addr} {vs : List Value} (h : w.ownsRow B e s (.slice p n c) n vs) (hn : 0 < n) : ∃ g,p = some ⟨g,0,none⟩ := by
 rcases h.2 with ⟨_,h0⟩ | ⟨g,cap,cur,hv,_⟩
 · omega
 · cases hv;exact ⟨g,rfl⟩
theorem jbc {w : World} {B e s n c : Nat} {p : Option Addr} {vs : List Value} (h : w.ownsRow B e s (.slice p n c) n vs) : Cs w p vs := by
 rcases Nat.eq_zero_or_pos n with h0 | h0
 · subst h0
   have : vs = [] := List.eq_nil_of_length_eq_zero (by have := h.1;omega);subst this;exact Cs.nil w p
 · obtain ⟨g,rfl⟩ := own_some h h0
   exact own_cs h
theorem wl_idxstore {t e b : Nat} {z : Value} [SlTy P t e 1 z b] [Cell1 P e] {x ix y : Operand} {d : Tmp} (hg1 : o1.guard = none) (ho1 : o1.op = .indexAddr t x ix) (hg2 : o2.guard = none) (ho2 : o2.op = .store e (.tmp d) y)
 {p : Option Addr} {n c B : Nat} {k : IntKind} {i : Int} {u : Value} (hd : ∀ y,(a.put o1.dst y).eval (.tmp d) = y)
 (hx : a.eval x = .slice p n c) (hi : a.eval ix = .int k i) (hy : ∀ q,(a.put o1.dst q).eval y = u) (hu1 : u.oneCell' = true) {vs : List Value} (hc : w.ownsRow B e 1 (.slice p n c) n vs) (h0 : 0 ≤ i) (hn : i < n)
 (h : ∀ w',w'.ownsRow B e 1 (.slice p n c) n (vs.set i.toNat u) → w.grownBy w' (Value.slice p n c).ownBlock → wpList P ops Q rest ((a.put o1.dst (.pointer (some (adr p i.toNat)))).put o2.dst undef) w') : wpList P ops Q (o1 :: o2 :: rest) a w := by
 obtain ⟨g,rfl⟩ := own_some hc (by omega);have hlen : vs.length = n := by have := hc.1;omega
 have hlt : i.toNat < n := by omega
 refine wl_idx hg1 ho1 hx hi rfl h0 hn ?_;rw [Nat.mul_one]
 have hcell : w.cell? (adr (some ⟨g,0,none⟩) i.toNat) = some (vs[i.toNat]'(by omega)) := by
  rw [jap,hc.cellAt _ (by omega)];simp [hlen,hlt]
 have hfr : w.frozen? (adr (some ⟨g,0,none⟩) i.toNat) = false := by rw [jap];exact hc.frozenAt _
 have hst := hc.stored i.toNat u;rw [← jap] at hst;refine wl_skip hg2 (w' := w.setCell (adr (some ⟨g,0,none⟩) i.toNat) u) ?_ (h _ hst.1 hst.2);simp [execOp,ho2,hd,hy,run_store1 hcell hfr hu1]
theorem wl_app1 {t e s b : Nat} {z : Value} [T : SlTy P t e s z b] {x1 s2 : Operand} {d1 : Tmp} {u : Value} {v : Value} {B n : Nat} {vs : List Value}
 (hg1 : o1.guard = none) (ho1 : o1.op = .buildSlice t 1 #[(0,x1)]) (hg2 : o2.guard = none) (ho2 : o2.op = .call { callee := .builtin .append,args := #[s2,.tmp d1],argTypes := #[t,t] })
 (hx : a.eval x1 = u) (hu : u.cells.size = s) (hu1 : u.cells.toList.all (fun y => y.oneCell') = true) (hd : ∀ y,(a.put o1.dst y).eval (.tmp d1) = y) (hs : ∀ y,(a.put o1.dst y).eval s2 = v)
 (how : w.ownsRow B e s v n vs) (hn : n + 1 ≤ maxLen) (hb : (n + 1) * b ≤ 140737488355328) (hB : B ≤ w.heap.size)
 (h : ∀ g c w',w'.ownsRow B e s (.slice (some ⟨g,0,none⟩) (n + 1) c) (n + 1) (vs ++ u.cells.toList) → w.grownBy w' v.ownBlock →
  wpList P ops Q rest ((a.put o1.dst (.slice (some ⟨w.heap.size,0,none⟩) 1 1)).put o2.dst (.slice (some ⟨g,0,none⟩) (n + 1) c)) w') : wpList P ops Q (o1 :: o2 :: rest) a w := by
 obtain ⟨ti,hi,hzz⟩ := Option.map_eq_some_iff.1 T.inf;simp only [Prod.mk.injEq] at hzz;have hund := T.und;have hpos := T.pos;have hs24 := T.few
 have hrun : (execOp a.eval o1).run P w = .ok (.value (.slice (some ⟨w.heap.size,0,none⟩) 1 1)) (w.alloc (.cells u.cells e)) := by
  have hfill : Instr.fill (fun i => some (i * s,s)) ((Array.range (1 * s)).map (z.cells[· % z.cells.size]!)) [(0,u)] = some u.cells := by
   simp only [Instr.fill,hu,Array.size_map,Array.size_range,Nat.zero_mul,Nat.zero_add,Nat.one_mul,Nat.lt_irrefl,ne_eq,not_true_eq_false,decide_false,Bool.or_self,gt_iff_lt,Bool.false_eq_true,if_false]
   congr 1
   exact fill_all _ _ (by simp [hu])
  simp [execOp,ho1,hx,Instr.buildSlice,run_underlying hund,sizeOf,typeInfo,hi,hzz.2.1,zeroValue,hzz.1,show ¬ 16777216 < s by omega,show ¬ s = 0 by omega,newRow];rw [show (Array.map (fun x => z.cells[x % z.cells.size]!) (Array.range s)) = (Array.range (1 * s)).map (z.cells[· % z.cells.size]!) by rw [Nat.one_mul],hfill];simp
 refine jbi hg1 hrun ?_;have how' := how.alloc (Obj.cells u.cells e);refine wpList_append_own _ hg2 s2 (.tmp d1) t ho2 B e ti z s b hund hi hzz.1 hzz.2.1 hzz.2.2 T.zs hpos v n vs (hs _) how' ⟨w.heap.size,0,none⟩ 1 1 u.cells.toList (hd _) (by simp [hu]) ?_ (List.all_eq_true.1 hu1) hn hb (by simp;omega) ?_
 · intro j y hj
   rw [Addr.add_lit,Nat.zero_add];have hnew : (w.alloc (.cells u.cells e)).heap[w.heap.size]? = some (.cells u.cells e) := heap_alloc_new w _;unfold World.cell?;rw [hnew]
   simpa using hj
 · intro v' w' h1 h2 h3
   rcases h1.2 with ⟨_,h4⟩ | ⟨g,cap,cur,rfl,_⟩
   · omega
   · exact h g cap w' h1 (grown_alloc h2)
where
 grown_alloc {w w' : World} {row : Option Nat} {x : Obj} (h : (w.alloc x).grownBy w' row) : w.grownBy w' row :=
  ⟨h.os,h.tape,h.output,Nat.le_trans (by simp) h.size,fun k hk hr => (h.block k (by simp;omega) hr).trans (Below.heap_alloc w x k hk)⟩
 fill_list : ∀ (l : List Value) (k : Nat) (zs : Array Value),zs.size = k + l.length → ∀ j (hj : j < zs.size),
  ∃ h : j < ((l.zipIdx k).foldl (fun (acc : Array Value) (x : Value × Nat) => acc.setIfInBounds x.2 x.1) zs).size,
    ((l.zipIdx k).foldl (fun (acc : Array Value) (x : Value × Nat) => acc.setIfInBounds x.2 x.1) zs)[j] = if h2 : k ≤ j ∧ j - k < l.length then l[j - k] else zs[j]
  | [],k,zs,hz,j,hj => ⟨hj,by simp⟩
  | y :: l,k,zs,hz,j,hj => by
    simp only [List.length_cons] at hz;obtain ⟨h1,h2⟩ := fill_list l (k + 1) (zs.setIfInBounds k y) (by simp;omega) j (by simpa using hj);refine ⟨by simpa [List.zipIdx_cons] using h1,?_⟩;simp only [List.zipIdx_cons,List.foldl_cons];rw [h2]
    by_cases hk : j = k
    · subst hk
      rw [dif_neg (by omega),dif_pos (by simp)];simp
    · by_cases hlt : k ≤ j ∧ j - k < l.length + 1
      · rw [dif_pos (by omega),dif_pos (by simpa using hlt)]
        have : j - k = (j - (k + 1)) + 1 := by omega
        simp only [this,List.getElem_cons_succ]
      · rw [dif_neg (by omega),dif_neg (by simpa using hlt)]
        exact Array.getElem_setIfInBounds_ne (by omega) (by omega)
 fill_all (cs zs : Array Value) (h : zs.size = cs.size) : Array.foldl (fun (acc : Array Value) (x : Value × Nat) => acc.setIfInBounds x.2 x.1) zs cs.zipIdx = cs := by
  have e : Array.foldl (fun (acc : Array Value) (x : Value × Nat) => acc.setIfInBounds x.2 x.1) zs cs.zipIdx = (cs.toList.zipIdx 0).foldl (fun (acc : Array Value) (x : Value × Nat) => acc.setIfInBounds x.2 x.1) zs := by
   rw [← Array.foldl_toList];simp
  rw [e]
  have hsz : ∀ (l : List (Value × Nat)) (zs : Array Value),(l.foldl (fun (acc : Array Value) (x : Value × Nat) => acc.setIfInBounds x.2 x.1) zs).size = zs.size := by
   intro l
   induction l with
   | nil => intro zs;rfl
   | cons x l ih => intro zs;simp only [List.foldl_cons];rw [ih];simp
  apply Array.ext
  · rw [hsz,h]
  · intro j h1 h2
    obtain ⟨_,h4⟩ := fill_list cs.toList 0 zs (by simp [h]) j (by omega);rw [h4,dif_pos (by simp;exact h2)];simp
end
end Go.Proofs.Ytmbckkcgiafagaa
