/- A part of the proofs: Ex, Ex2, Dr3, Dr4, Dr5, GrC, Dr6, Dr7, Key, Stp. -/
import Derived.Test.YtmbckkcgiafagaaZ01FnMode
import Derived.Test.YtmbckkcgiafagaaZ11FnMode
import Derived.Test.YtmbckkcgiafagaaZ07FnMode
import Derived.Test.YtmbckkcgiafagaaZ06FnMode
import Derived.Test.YtmbckkcgiafagaaZ09FnMode
import Derived.Test.YtmbckkcgiafagaaZ10FnMode
import Derived.Test.YtmbckkcgiafagaaZ03FnMode
import Derived.Test.YtmbckkcgiafagaaZ05FnMode
import Derived.Test.YtmbckkcgiafagaaZ08FnMode
import Derived.Test.YtmbckkcgiafagaaZ02FnMode
set_option linter.unusedSimpArgs false
set_option linter.unusedVariables false
set_option maxRecDepth 100000
set_option maxHeartbeats 16000000
namespace Go.Proofs.Ytmbckkcgiafagaa
open Go.RowKit
namespace Ex
open Ieee
theorem read_word (f : Format) (s : Bool) {r : Nat} (hr : r < f.infRung) :
 f.read (f.word s r) = if r < f.binade then .number s r f.leastPlace else .number s (f.binade + r % f.binade) (f.leastPlace + (r / f.binade - 1 : Nat)) := by
 have h1 := f.infRung_lt;have hs : 0 < f.signWeight := by omega
 have hw : f.word s r / f.signWeight % 2 = s.toNat ∧ f.word s r % f.signWeight = r := by
  unfold Format.word
  cases s
  · simp only [Bool.false_eq_true,if_false]
    exact ⟨by rw [Nat.div_eq_of_lt (by omega)];rfl,Nat.mod_eq_of_lt (by omega)⟩
  · simp only [if_true]
    exact ⟨by rw [Nat.add_div_left _ hs,Nat.div_eq_of_lt (by omega)];rfl,by rw [Nat.add_mod_left,Nat.mod_eq_of_lt (by omega)]⟩
 unfold Format.read;simp only [hw.1,hw.2];rw [show ((s.toNat == 1) : Bool) = s from by cases s <;> rfl];rw [if_pos hr]
def vm (m : Nat) (p : Int) : Nat := m * 2 ^ (p + 1074).toNat
def vs (s : Bool) (m : Nat) (p : Int) : Int := if s then -(vm m p : Int) else (vm m p : Int)
def U : Nat := 2 ^ ((0 : Int) + 1074).toNat
theorem vm_shift {m : Nat} {p b : Int} (hb : -1074 ≤ b) (hp : b ≤ p) : vm m p = m * 2 ^ (p - b).toNat * 2 ^ (b + 1074).toNat := by
 unfold vm;rw [Nat.mul_assoc,← Nat.pow_add,show (p - b).toNat + (b + 1074).toNat = (p + 1074).toNat by omega]
theorem cmp_mul {a b c : Int} (hc : 0 < c) : compare (a * c) (b * c) = compare a b := by
 show compareOfLessAndEq (a * c) (b * c) = compareOfLessAndEq a b;unfold compareOfLessAndEq;have h1 : a * c < b * c ↔ a < b := ⟨fun h => Int.lt_of_mul_lt_mul_right h (Int.le_of_lt hc),fun h => Int.mul_lt_mul_of_pos_right h hc⟩;have h2 : a * c = b * c ↔ a = b := ⟨fun h => Int.eq_of_mul_eq_mul_right (by omega) h,fun h => by rw [h]⟩;simp only [h1,h2]
theorem order_val {s t : Bool} {m n : Nat} {i j : Int} (hi : -1074 ≤ i) (hj : -1074 ≤ j) : (Datum.number s m i).order (.number t n j) = some (compare (vs s m i) (vs t n j)) := by
 have hb : -1074 ≤ min i j := by omega
 have hc : (0 : Int) < ((2 ^ (min i j + 1074).toNat : Nat) : Int) := by have := Nat.two_pow_pos (min i j + 1074).toNat;omega
 have key : ∀ (s : Bool) (m : Nat) (i' : Int),min i j ≤ i' → vs s m i' = signed s m (i' - min i j).toNat * ((2 ^ (min i j + 1074).toNat : Nat) : Int) := by
  intro s m i' hle;unfold vs signed;rw [vm_shift hb hle,Nat.shiftLeft_eq]
  cases s
  · simp
  · simp only [if_true];rw [Int.neg_mul];simp
 show some (compare (signed s m (i - min i j).toNat) (signed t n (j - min i j).toNat)) = _;rw [key s m i (by omega),key t n j (by omega),cmp_mul hc]
attribute [irreducible] U vm
end Ex
end Go.Proofs.Ytmbckkcgiafagaa
namespace Go.Proofs.Ytmbckkcgiafagaa
open Go.RowKit
namespace Ex
open Ieee
def Val (k : FloatKind) (b : Nat) (v : Int) : Prop := ∃ s m p,k.decode b = .number s m p ∧ -1074 ≤ p ∧ vs s m p = v
theorem Val.order {k : FloatKind} {a b : Nat} {v u : Int} (h : Val k a v) (h' : Val k b u) : k.format.order a b = some (compare v u) := by
 obtain ⟨s,m,p,h1,h2,rfl⟩ := h;obtain ⟨t,n,q,g1,g2,rfl⟩ := h';show (k.decode a).order (k.decode b) = _;rw [h1,g1,order_val h2 g2]
theorem cmp_lt {a b : Int} : (compare a b = .lt) ↔ a < b := by
 show compareOfLessAndEq a b = .lt ↔ _;unfold compareOfLessAndEq
 split
 · simp_all
 · split <;> simp_all
theorem Val.lt {k : FloatKind} {a b : Nat} {v u : Int} (h : Val k a v) (h' : Val k b u) : (k.format.order a b == some .lt) = decide (v < u) := by
 rw [h.order h',Bool.eq_iff_iff];simp [cmp_lt]
end Ex
end Go.Proofs.Ytmbckkcgiafagaa
namespace Go.Proofs.Ytmbckkcgiafagaa
open Go.RowKit
theorem GotF.mono {sb K K' : Nat} {w w' : World} {e : Ending} (h : GotF sb K w e w') (k : K ≤ K') : GotF sb K' w e w' := by
 obtain ⟨b,h1,hb,h2,h3⟩ := h;exact ⟨b,h1,hb,h2.mono k,h3⟩
theorem drFloat_any (sb K : Nat) (w : World) (h : DrAt w sb K) (hK : K ≤ 700000000) : Calls Try.prog 134 #[.pointer (some ⟨sb,0,none⟩)] w (GotF sb (K + 30) w) := by
 have HLT := hid h.lt;go_enter Try.func134,Try.ntmps134;go_wp2_with fail;refine (drOne_any sb K 12 w h (by omega) (by omega)).mono ?_;rintro e w1 ⟨b,rfl,s1,c1⟩
 have S1 := hid s1;clear s1 h
 cases b
 · go_wp2_with fail
   refine (drPlain_any sb (K + 2) w1 S1.out (by omega)).mono ?_;rintro e w2 ⟨b,rfl,hb,s2,c2⟩
   have S2 := hid s2;clear s2;go_wp2;go_ret;exact ⟨b,rfl,hb,S2.out.mono (by omega),c1.trans c2⟩
 · go_wp2_with fail
   refine (jbp sb (K + 2) 4 w1 S1.out (by omega) (by omega)).mono ?_;rintro e w2 ⟨x,rfl,hx,hx2,s2,c2⟩
   have S2 := hid s2;have C2 := hid (c1.trans c2);have HLT2 := hid s2.lt;clear s2 c1 c2 hx hx2
   by_cases h0 : x = 0
   · subst h0
     have k1 := HB.new w2 #[.int .i64 0,.int .i64 2147483648,.int .i64 2139095040,.int .i64 4286578688,.int .i64 2143289344,.int .i64 1,.int .i64 2139095039,.int .i64 8388608,.int .i64 8388607,.int .i64 2147483649] 2;have e3 := Ext.alloc w2 (.cells #[.int .i64 0,.int .i64 2147483648,.int .i64 2139095040,.int .i64 4286578688,.int .i64 2143289344,.int .i64 1,.int .i64 2139095039,.int .i64 8388608,.int .i64 8388607,.int .i64 2147483649] 2);obtain ⟨w3,hw3⟩ : ∃ w3,w3 = w2.alloc (.cells #[.int .i64 0,.int .i64 2147483648,.int .i64 2139095040,.int .i64 4286578688,.int .i64 2143289344,.int .i64 1,.int .i64 2139095039,.int .i64 8388608,.int .i64 8388607,.int .i64 2147483649] 2) := ⟨_,rfl⟩;rw [← hw3] at k1 e3;have K1 := hid (cs_heap k1);clear k1;go_wp2_with fail;rw [← hw3];clear hw3;refine (drAmong_any sb (K + 4) _ 10 10 [0,2147483648,2139095040,4286578688,2143289344,1,2139095039,8388608,8388607,2147483649] w3 (S2.out.ext e3) (by omega) K1.out rfl (by omega) (by omega) (fun a ha => by cases ha;exact HLT2.out)).mono ?_;rintro e w4 ⟨z,_,rfl,s4,c4⟩
     have S4 := hid s4;clear s4;go_wp2_with fail;refine (l01From_any z w4).mono ?_;rintro e w5 ⟨⟨b,rfl,hb⟩,e5⟩
     go_wp2;go_ret;exact ⟨b,rfl,hb,(S4.out.ext e5).mono (by omega),((C2.out.trans (.of_ext e3)).trans c4).trans (.of_ext e5)⟩
   by_cases h1 : x = 1
   · subst h1
     go_wp2_with fail;refine (jbp sb (K + 4) 65536 w2 S2.out (by omega) (by omega)).mono ?_;rintro e w3 ⟨y,rfl,_,_,s3,c3⟩
     have S3 := hid s3;clear s3;go_wp2_with fail;refine (jbp sb (K + 6) 65536 w3 S3.out (by omega) (by omega)).mono ?_;rintro e w4 ⟨z,rfl,_,_,s4,c4⟩
     have S4 := hid s4;clear s4;go_wp2_with fail;refine (l01From_any _ w4).mono ?_;rintro e w5 ⟨⟨b,rfl,hb⟩,e5⟩
     go_wp2;go_ret;exact ⟨b,rfl,hb,(S4.out.ext e5).mono (by omega),((C2.out.trans c3).trans c4).trans (.of_ext e5)⟩
   have n1 : ((x : Int) = 1) = False := by simp;omega
   have n0 : ((x : Int) = 0) = False := by simp;omega
   by_cases h2 : x = 2
   · subst h2
     go_wp2_with fail;refine (jbp sb (K + 4) 65536 w2 S2.out (by omega) (by omega)).mono ?_;rintro e w3 ⟨y,rfl,_,_,s3,c3⟩
     have S3 := hid s3;clear s3;go_wp2_with fail;refine (l01From_any _ w3).mono ?_;rintro e w5 ⟨⟨b,rfl,hb⟩,e5⟩
     go_wp2;go_ret;exact ⟨b,rfl,hb,(S3.out.ext e5).mono (by omega),(C2.out.trans c3).trans (.of_ext e5)⟩
   have n2 : ((x : Int) = 2) = False := by simp;omega
   go_wp2_with fail;refine (drPlain_any sb (K + 4) w2 S2.out (by omega)).mono ?_;rintro e w3 ⟨bx,rfl,_,s3,c3⟩
   have S3 := hid s3;have HLT3 := hid s3.lt;clear s3;have k1 := HB.new w3 #[.int .i64 8388608,.int .i64 2130706432,.int .i64 1610612736,.int .i64 536870912] 2;have e3 := Ext.alloc w3 (.cells #[.int .i64 8388608,.int .i64 2130706432,.int .i64 1610612736,.int .i64 536870912] 2);obtain ⟨w4,hw4⟩ : ∃ w4,w4 = w3.alloc (.cells #[.int .i64 8388608,.int .i64 2130706432,.int .i64 1610612736,.int .i64 536870912] 2) := ⟨_,rfl⟩;rw [← hw4] at k1 e3;have K1 := hid (cs_heap k1);clear k1;go_wp2_with fail;rw [← hw4];clear hw4;refine (drAmong_any sb (K + 8) _ 4 4 [8388608,2130706432,1610612736,536870912] w4 (S3.out.ext e3) (by omega) K1.out rfl (by omega) (by omega) (fun a ha => by cases ha;exact HLT3.out)).mono ?_;rintro e w5 ⟨z,_,rfl,s5,c5⟩
   have S5 := hid s5;clear s5;go_wp2_with fail;refine (l01From_any z w5).mono ?_;rintro e w6 ⟨⟨b,rfl,hb⟩,e6⟩
   go_wp2_with ((with_reducible show gx3);refine jcm rfl rfl rfl rfl rfl ?_;intro r0 w0 e0 g0;have G0 := hid g0;clear g0);go_ret;exact ⟨_,rfl,by rw [G0.out];exact fop_lt _ _ _,((S5.out.ext e6).ext e0).mono (by omega),(((C2.out.trans c3).trans (.of_ext e3)).trans c5).trans (.of_ext (e6.trans e0))⟩
def GotFs (sb K n : Nat) (w : World) (e : Ending) (w' : World) : Prop := ∃ xs : List Nat,xs.length = n ∧ (∀ x ∈ xs,x < 4294967296) ∧ RetFl2 w xs e w' ∧ DrAt w' sb K ∧ Chg (fun k => k = sb) w w'
theorem drFloats_any (sb K n : Nat) (w : World) (h : DrAt w sb K) (hn : n ≤ 100000) (hK : K ≤ 100000000) : Calls Try.prog 91 #[.pointer (some ⟨sb,0,none⟩),.int .i64 n] w (GotFs sb (K + 2 + n * 30) n w) := by
 have hlt0 := h.lt;have hstart : (w.alloc (.cells #[] 33)).ownsRow w.heap.size 33 1 (.slice (some ⟨w.heap.size,0,none⟩) 0 0) 0 [] := World.ownsRow_made w #[] 0 (Nat.le_refl _) (by decide) rfl;have hsrc := h.ext (Ext.alloc w (.cells #[] 33));have c0 : Chg (fun k => k = sb) w (w.alloc (.cells #[] 33)) := .of_ext (Ext.alloc _ _);obtain ⟨w0,hw0⟩ : ∃ w0,w0 = w.alloc (.cells #[] 33) := ⟨_,rfl⟩;rw [← hw0] at hstart hsrc c0;clear h;go_enter Try.func91,Try.ntmps91;go_wp2_with fail;rw [← hw0];clear hw0;refine (drOne_any sb K 4 w0 hsrc (by omega) (by omega)).mono ?_;rintro e w1 ⟨sg,rfl,s1,c1⟩
 have O1 := ja0 hstart c1 (fun k hk => by have := jas hstart k hk;omega);have C1 := c0.trans c1;clear hstart hsrc c0 c1;go_wp2;go_loopw [1,5] (fun nv ov wr => ∃ (i : Nat) (vs : List Value) (xs : List Nat) (q : Option Addr) (cq : Nat),i ≤ n ∧ nv = .int .i64 ((n : Int) - (i : Int)) ∧ ov = .slice q i cq ∧ wr.ownsRow w.heap.size 33 1 (.slice q i cq) i vs ∧ Hid (F32s vs xs) ∧ Hid (xs.length = i ∧ ∀ x ∈ xs,x < 4294967296) ∧ DrAt wr sb (K + 2 + i * 30) ∧ Chg (fun k => k = sb) w wr) (fun nv _ _ => (intOf nv).toNat)
 case atStart => exact ⟨0,[],[],_,_,by omega,by simp,rfl,O1,F32s.nil,hid ⟨rfl,fun x hx => by simp at hx⟩,by simpa using s1,C1⟩
 case round =>
  clear O1 C1 s1;obtain ⟨i,vs,xs,q,cq,hi,rfl,rfl,own0,HF,HX,src,hch⟩ := hrel;have hB := hch.size
  by_cases hlt : i < n
  · have hgt : decide (0 < (n : Int) - (i : Int)) = true := by simp;omega
    have C : ∀ e w1,GotF sb (K + 2 + i * 30 + 30) wr e w1 → ∃ r : Nat,e = .returned (.float .f32 r) ∧ cn .f32 r < 4294967296 ∧ DrAt w1 sb (K + 2 + i * 30 + 30) ∧ Chg (fun k => k = sb) wr w1 := fun e w1 h => h
    cases sg
    all_goals
     go_wp2_with fail
     first
      | refine ((drPlain_any sb (K + 2 + i * 30) wr src (by omega)).mono fun e w2 h => C e w2 (h.mono (by omega))).mono ?_
      | refine ((drFloat_any sb (K + 2 + i * 30) wr src (by omega)).mono fun e w2 h => C e w2 (h.mono (by omega))).mono ?_
     rintro e w1 ⟨r,rfl,hr,src1,ch1⟩
     have own1 := ja0 own0 ch1 (fun k hk => by have := jas own0 k hk;omega);have hch1 := hch.trans ch1;have hB1 := hch1.size;go_wp2_with ((with_reducible show gx6);refine ja9 (u := .float .f32 r) rfl rfl rfl rfl rfl rfl rfl (fun _ => rfl) (fun _ => rfl) own1 (by unfold maxLen;omega) (by omega) (by omega) ?_;intro g c w2 own2 g2 hg2);go_roundw
     case rel =>
      have own3 : w2.ownsRow w.heap.size 33 1 (.slice (some ⟨g,0,none⟩) (i + 1) c) (i + 1) (vs ++ [.float .f32 r]) := own2;refine ⟨i + 1,vs ++ [.float .f32 r],xs ++ [cn .f32 r],_,_,by omega,by go_num,rfl,own3,hid (HF.out.snoc1 r),hid ⟨by rw [List.length_append,HX.out.1];rfl,fun x hx => by rcases List.mem_append.1 hx with hx | hx;exact HX.out.2 x hx;simp at hx;subst hx;exact hr⟩,?_,chg_grown hch1 g2 (fun k hk => jas own1 k hk)⟩;refine (src1.chg (.of_grown g2) (fun b hb => by have := jas own1 b hb.symm;omega)).mono (by omega)
     case measure => simp [intOf];omega
  · obtain rfl : i = n := by omega
    go_wp2;go_ret;exact ⟨xs,HX.out.1,HX.out.2,⟨q,cq,vs,by rw [HX.out.1];rfl,by rw [HX.out.1];exact own0,HF.out⟩,src,hch⟩
theorem chg_new {w w0 w' : World} {sb : Nat} (e : Ext w w0) (k : Chg (fun b => b = sb) w0 w') (h : w.heap.size ≤ sb) : Ext w w' :=
 e.chg k (fun b hb => by subst hb;exact h)
def GotT (R C : Nat) (w : World) (e : Ending) (w' : World) : Prop := ∃ (xs : List Nat) (q : Option Addr) (c : Nat) (vs : List Value),e = .returned (.agg #[.int .i64 R,.int .i64 C,.slice q (R * C) c]) ∧ xs.length = R * C ∧ (∀ x ∈ xs,x < 4294967296) ∧ w'.ownsRow w.heap.size 33 1 (.slice q (R * C) c) (R * C) vs ∧ F32s vs xs ∧ Ext w w'
theorem Chg.late {S S' : Nat → Prop} {w w1 w2 : World} (h : Chg S w w1) (k : Chg S' w1 w2) (hS : ∀ b,S' b → w.heap.size ≤ b ∨ S b) : Chg S w w2 :=
 ⟨k.os.trans h.os,k.tape.trans h.tape,k.output.trans h.output,Nat.le_trans h.size k.size,fun i hi hn => (k.block i (Nat.lt_of_lt_of_le hi h.size) (fun hb => by rcases hS i hb with h1 | h1;omega;exact hn h1)).trans (h.block i hi hn)⟩
theorem cnt_bd {k i o : Int} (hi : 1 ≤ i ∧ i ≤ 8) (ho : 1 ≤ o ∧ o ≤ 8) : ∃ nw nb : Nat,wCnt k i o = nw ∧ bCnt k i o = nb ∧ nw ≤ 64 ∧ nb ≤ 64 := by
 have hm := mul_bd hi ho;refine ⟨(wCnt k i o).toNat,(bCnt k i o).toNat,?_,?_,?_,?_⟩
 all_goals (first | unfold wCnt | unfold bCnt);repeat (first | omega | split)
def Full (B : Nat) (w : World) (u : Value) : Prop := ∀ g n c,u = .slice (some ⟨g,0,none⟩) n c → B ≤ g ∧ ∃ Z m,w.heap[g]? = some (.cells Z 33 m) ∧ Z.size = c
theorem full_of {w : World} {B n c : Nat} {q : Option Addr} {vs : List Value} (h : w.ownsRow B 33 1 (.slice q n c) n vs) : Full B w (.slice q n c) := by
 intro g n' c' e
 cases e
 rcases h.2 with ⟨h1,_⟩ | ⟨g',cap,cur,h1,hB,hh,_,_,hs,_⟩
 · cases h1
 · cases h1;exact ⟨hB,cur,_,hh,by omega⟩
theorem Full.chgT {B : Nat} {w w' : World} {u : Value} {S : Nat → Prop} (h : Full B w u) (k : Chg S w w') (hS : ∀ b,S b → b < B ∨ ∃ Z T m,w.heap[b]? = some (.cells Z T m) ∧ T ≠ 33) : Full B w' u := by
 intro g n c e;obtain ⟨h1,Z,m,h2,h3⟩ := h g n c e;refine ⟨h1,Z,m,?_,h3⟩;rw [k.block g (heap_lt h2) (fun hs => ?_)]
 · exact h2
 · rcases hS g hs with h4 | ⟨Z',T,m',h4,h5⟩
   · omega
   · rw [h2] at h4;cases h4;exact h5 rfl
theorem Full.chg {B : Nat} {w w' : World} {u : Value} {S : Nat → Prop} (h : Full B w u) (k : Chg S w w') (hS : ∀ b,S b → b < B) : Full B w' u := h.chgT k fun b hb => .inl (hS b hb)
theorem Full.base {B B' : Nat} {w : World} {u : Value} (h : Full B w u) (hB : B' ≤ B) : Full B' w u := fun g n c e => ⟨Nat.le_trans hB (h g n c e).1,(h g n c e).2⟩
theorem Full.ext {B : Nat} {w w' : World} {u : Value} (h : Full B w u) (e : Ext w w') : Full B w' u := h.chg (Chg.of_ext (S := fun _ => False) e) fun _ h => h.elim
theorem Full.grown {B B' t s n : Nat} {w w' : World} {u v : Value} {vs : List Value} (h : Full B w u) (row : w.ownsRow B' t s v n vs) (ht : t ≠ 33) (gr : w.grownBy w' v.ownBlock) : Full B w' u := by
 refine h.chgT (Chg.of_grown gr) fun b hb => .inr ?_
 rcases row.2 with ⟨h1,_⟩ | ⟨g',cap,cur,h1,_,hh,_⟩
 · rw [h1] at hb;cases hb
 · rw [h1] at hb
   have hb : some b = some g' := hb
   cases hb
   exact ⟨_,_,_,hh,ht⟩
def FullL (B : Nat) (w : World) (css : List (List Value)) : Prop := ∀ cs ∈ css,∀ u ∈ cs,Full B w u
theorem FullL.chgT {B : Nat} {w w' : World} {css : List (List Value)} {S : Nat → Prop} (h : FullL B w css) (k : Chg S w w') (hS : ∀ b,S b → b < B ∨ ∃ Z T m,w.heap[b]? = some (.cells Z T m) ∧ T ≠ 33) : FullL B w' css := fun c hc u hu => (h c hc u hu).chgT k hS
theorem FullL.chg {B : Nat} {w w' : World} {css : List (List Value)} {S : Nat → Prop} (h : FullL B w css) (k : Chg S w w') (hS : ∀ b,S b → b < B) : FullL B w' css := fun c hc u hu => (h c hc u hu).chg k hS
theorem FullL.ext {B : Nat} {w w' : World} {css : List (List Value)} (h : FullL B w css) (e : Ext w w') : FullL B w' css := fun c hc u hu => (h c hc u hu).ext e
theorem FullL.base {B B' : Nat} {w : World} {css : List (List Value)} (h : FullL B w css) (hB : B' ≤ B) : FullL B' w css := fun c hc u hu => (h c hc u hu).base hB
theorem FullL.grown {B B' t s n : Nat} {w w' : World} {css : List (List Value)} {v : Value} {vs : List Value} (h : FullL B w css) (row : w.ownsRow B' t s v n vs) (ht : t ≠ 33) (gr : w.grownBy w' v.ownBlock) : FullL B w' css := fun c hc u hu => (h c hc u hu).grown row ht gr
theorem FullL.snoc {B : Nat} {w : World} {css : List (List Value)} {a b o : Int} {u v : Value} (h : FullL B w css) (h1 : Full B w u) (h2 : Full B w v) : FullL B w (css ++ [[.int .i64 a,.int .i64 b,.int .i64 o,u,v]]) := by
 intro c hc x hx;rcases List.mem_append.1 hc with hc | hc
 · exact h c hc x hx
 · have hc := List.mem_singleton.1 hc
   subst hc;simp only [List.mem_cons,List.not_mem_nil,or_false] at hx;rcases hx with rfl | rfl | rfl | rfl | rfl
   · intro g n c e;cases e
   · intro g n c e;cases e
   · intro g n c e;cases e
   · exact h1
   · exact h2
def GotLay (sb K : Nat) (k i o : Int) (w : World) (e : Ending) (w' : World) : Prop :=
 ∃ (ws bs : List Nat) (pw pb : Option Addr) (cw cb : Nat),e = .returned (.agg #[.int .i64 k,.int .i64 i,.int .i64 o,.slice pw ws.length cw,.slice pb bs.length cb]) ∧ layB k i o ws.length bs.length = true ∧ (∀ x ∈ ws,x < 4294967296) ∧ (∀ x ∈ bs,x < 4294967296) ∧
   IsOwnY [33] w.heap.size jac w' [.int .i64 k,.int .i64 i,.int .i64 o,.slice pw ws.length cw,.slice pb bs.length cb] (k,i,o,ws,bs,()) ∧ DrAt w' sb K ∧ Chg (fun b => b = sb) w w' ∧ Full w.heap.size w' (.slice pw ws.length cw) ∧ Full w.heap.size w' (.slice pb bs.length cb)
theorem gotFs_thing {sb K n : Nat} {w w' : World} {e : Ending} (h : GotFs sb K n w e w') : ∃ (xs : List Nat) (q : Option Addr) (c : Nat) (bs : List Nat),e = .returned (.slice q n c) ∧ xs.length = n ∧ (∀ x ∈ xs,x < 4294967296) ∧ Own w' (.sl .flt) [.slice q n c] xs bs ∧ bs.Nodup ∧ (∀ b ∈ bs,w.heap.size ≤ b) ∧ Tys w' [33] bs ∧ DrAt w' sb K ∧ Chg (fun b => b = sb) w w' ∧ Full w.heap.size w' (.slice q n c) := by
 obtain ⟨xs,hx,hb,⟨q,c,vs,he,ho,hf⟩,hd,hc⟩ := h;have F := full_of ho;have H : Own w' (.sl .flt) [.slice q xs.length c] xs (jaj q) := own_flts.2 ⟨q,c,vs,rfl,ownRow_of ho,hf,(jbb ho).1,(jbb ho).2,rfl⟩;have T := own_tys ho
 have hlo : ∀ b ∈ jaj q,w.heap.size ≤ b := by
  intro b hb
  cases q with
  | none => simp [jaj] at hb
  | some a => simp [jaj] at hb;subst hb;exact jas ho _ rfl
 rw [hx] at he H F;exact ⟨xs,q,c,jaj q,he,hx,hb,H,by cases q <;> simp [jaj],hlo,T,hd,hc,F⟩
theorem l03DrawLayer_any (sb K : Nat) (k i o : Int) (w : World) (h : DrAt w sb K) (hK : K ≤ 1000000) (hk : 0 ≤ k ∧ k ≤ 5) (hi : 1 ≤ i ∧ i ≤ 8) (ho : 1 ≤ o ∧ o ≤ 8) :
 Calls Try.prog 97 #[.pointer (some ⟨sb,0,none⟩),.int .i64 k,.int .i64 i,.int .i64 o] w (GotLay sb (K + 4000) k i (if k = 0 then o else i) w) := by
 have hlt0 := h.lt;obtain ⟨W0,hW0⟩ : ∃ W0,W0 = (w.alloc (.cells #[.int .i64 0,.int .i64 0,.int .i64 0,.slice none 0 0,.slice none 0 0] 41)).alloc (.cells #[.int .i64 k,.int .i64 i,.int .i64 i,.slice none 0 0,.slice none 0 0] 41) := ⟨_,rfl⟩;obtain ⟨E0,s0,b0,b1⟩ := box2 hW0;have b0 : HB W0 w.heap.size #[.int .i64 0,.int .i64 0,.int .i64 0,.slice none 0 0,.slice none 0 0] 41 := b0;have b1 : HB W0 (w.heap.size + 1) #[.int .i64 k,.int .i64 i,.int .i64 i,.slice none 0 0,.slice none 0 0] 41 := b1;have H0 := h.ext E0;clear h
 by_cases hk0 : k = 0
 case pos =>
  subst hk0;rw [if_pos rfl];go_enter Try.func97,Try.ntmps97;go_wp2_with (first | (rw [← hW0];clear hW0;(with_reducible show gx9);refine wl_stHB (j := 2) rfl rfl b1 rfl rfl rfl rfl ?_;intro W1 b1 ch1;have b0 := b0.chg ch1 (fun hh => by omega);have H0 := H0.chg ch1 (fun b hb => by omega);have E0 := E0.chg ch1 (fun b hb => by omega)) | fail);have b1 : HB W1 (w.heap.size + 1) #[.int .i64 0,.int .i64 i,.int .i64 o,.slice none 0 0,.slice none 0 0] 41 := b1;refine (l03Counts_any (sp := none) (w.heap.size + 1) 0 0 i o W1 (b1.cell 0 rfl) (b1.cell 1 rfl) (b1.cell 2 rfl) hi ho).mono ?_;rintro e w2 ⟨rfl,e2⟩
  obtain ⟨nw,nb,hnw,hnb,lw,lb⟩ := cnt_bd (k := 0) hi ho
  have HL : Hid (∀ a b : Nat,a = nw → b = nb → layB 0 i o a b = true) := hid (by
   rintro a b rfl rfl
   unfold layB;simp only [Bool.and_eq_true,jar,decide_eq_true_eq,Bool.or_eq_true];exact ⟨⟨by omega,by omega⟩,hi,ho,by first | exact Or.inl rfl | exact Or.inr rfl | (left;simp),by omega,by omega⟩)
  rw [hnw,hnb];have S2 := H0.ext e2;have B2 := b1.ext e2;have Z2 := b0.ext e2;have E2 := E0.trans e2;clear hnw hnb b1 b0 H0 E0;have hz := E2.size;go_wp2_with fail;refine (drFloats_any sb K nw w2 S2 (by omega) (by omega)).mono ?_;rintro e w3 h3
  obtain ⟨ws,q,c,bsw,rfl,hwl,hwb,ow,ndw,low,tw,S3,c3,fw⟩ := gotFs_thing h3;have B3 := B2.chg c3 (fun hh => by omega);have Z3 := Z2.chg c3 (fun hh => by omega);have hlt2 := B2.lt;clear h3 S2;go_wp2_with (first | ((with_reducible show gx9);refine wl_stHB (j := 3) rfl rfl B3 rfl rfl rfl rfl ?_;intro w4 B4 ch4;have B4 : HB w4 (w.heap.size + 1) #[.int .i64 0,.int .i64 i,.int .i64 o,.slice q nw c,.slice none 0 0] 41 := B4;have Z4 := Z3.chg ch4 (fun hh => by omega);have S4 := S3.chg ch4 (fun b hb => by omega)) | fail);refine (drFloats_any sb (K + 2 + nw * 30) nb w4 S4 (by omega) (by omega)).mono ?_;rintro e w5 h5
  obtain ⟨bv,q5,c5,bsb,rfl,hbl,hbb,ob,ndb,lob,tb,S5,ch5,fb⟩ := gotFs_thing h5;have B5 := B4.chg ch5 (fun hh => by omega);have Z5 := Z4.chg ch5 (fun hh => by omega);clear h5 S4 S3;have k1 := c3.size;have k2 := ch4.size;have k3 := ch5.size;have ow4 := ow.chg ch4 (fun b hb hh => by have := low b hb;have hh : b = _ := hh;omega);have ow5 := ow4.chg ch5 (fun b hb hh => by have := low b hb;have hh : b = _ := hh;omega);have tw5 := (tw.chg ch4 (fun b hb hh => by have := low b hb;have hh : b = _ := hh;omega)).chg ch5 (fun b hb hh => by have := low b hb;have hh : b = _ := hh;omega);have ltw := ow.lt;have C5 := (((Chg.of_ext (S := fun b => b = sb) E2).trans c3).late ch4 (fun b hb => by left;have hb : b = _ := hb;omega)).trans ch5;go_wp2_with (first | ((with_reducible show gx9);refine wl_stHB (j := 4) rfl rfl B5 rfl rfl rfl rfl ?_;intro w6 B6 ch6;have B6 : HB w6 (w.heap.size + 1) #[.int .i64 0,.int .i64 i,.int .i64 o,.slice q nw c,.slice q5 nb c5] 41 := B6;have Z6 := Z5.chg ch6 (fun hh => by omega);have r0 := B6.cell 0 rfl;have r1 := B6.cell 1 rfl;have r2 := B6.cell 2 rfl;have r3 := B6.cell 3 rfl;have r4 := B6.cell 4 rfl;have f0 := Z6.froz 0;have f1 := Z6.froz 1;have f2 := Z6.froz 2;have f3 := Z6.froz 3;have f4 := Z6.froz 4;have z0 := Z6.cell 0 rfl;have z1 := Z6.cell 1 rfl;have z2 := Z6.cell 2 rfl;have z3 := Z6.cell 3 rfl;have z4 := Z6.cell 4 rfl) | fail);have Z7 : HB (((((w6.setCell ⟨w.heap.size,0,none⟩ (.int .i64 0)).setCell ⟨w.heap.size,1,none⟩ (.int .i64 i)).setCell ⟨w.heap.size,2,none⟩ (.int .i64 o)).setCell ⟨w.heap.size,3,none⟩ (.slice q nw c)).setCell ⟨w.heap.size,4,none⟩ (.slice q5 nb c5)) w.heap.size #[.int .i64 0,.int .i64 i,.int .i64 o,.slice q nw c,.slice q5 nb c5] 41 := ((((Z6.set 0 _).set 1 _).set 2 _).set 3 _).set 4 _;have C7 : Chg (fun b => b = w.heap.size) w6 (((((w6.setCell ⟨w.heap.size,0,none⟩ (.int .i64 0)).setCell ⟨w.heap.size,1,none⟩ (.int .i64 i)).setCell ⟨w.heap.size,2,none⟩ (.int .i64 o)).setCell ⟨w.heap.size,3,none⟩ (.slice q nw c)).setCell ⟨w.heap.size,4,none⟩ (.slice q5 nb c5)) := ((((jbc _ _ 0 _).trans (jbc _ _ 1 _)).trans (jbc _ _ 2 _)).trans (jbc _ _ 3 _)).trans (jbc _ _ 4 _);clear r0 r1 r2 r3 r4 f0 f1 f2 f3 f4 z0 z1 z2 z3 z4;generalize (((((w6.setCell ⟨w.heap.size,0,none⟩ (.int .i64 0)).setCell ⟨w.heap.size,1,none⟩ (.int .i64 i)).setCell ⟨w.heap.size,2,none⟩ (.int .i64 o)).setCell ⟨w.heap.size,3,none⟩ (.slice q nw c)).setCell ⟨w.heap.size,4,none⟩ (.slice q5 nb c5)) = W7 at *;have y0 := Z7.cell 0 rfl;have y1 := Z7.cell 1 rfl;have y2 := Z7.cell 2 rfl;have y3 := Z7.cell 3 rfl;have y4 := Z7.cell 4 rfl;refine bodyPost_ret (v := .agg #[.int .i64 0,.int .i64 i,.int .i64 o,.slice q nw c,.slice q5 nb c5]) (by simp [results,Try.results97,go_sem,y0,y1,y2,y3,y4]) rfl ?_;have k6 := ch6.size;have ow7 := (ow5.chg ch6 (fun b hb hh => by have := low b hb;have hh : b = _ := hh;omega)).chg C7 (fun b hb hh => by have := low b hb;have hh : b = _ := hh;omega);have ob7 := (ob.chg ch6 (fun b hb hh => by have := lob b hb;have hh : b = _ := hh;omega)).chg C7 (fun b hb hh => by have := lob b hb;have hh : b = _ := hh;omega);have tw7 := (tw5.chg ch6 (fun b hb hh => by have := low b hb;have hh : b = _ := hh;omega)).chg C7 (fun b hb hh => by have := low b hb;have hh : b = _ := hh;omega);have tb7 := (tb.chg ch6 (fun b hb hh => by have := lob b hb;have hh : b = _ := hh;omega)).chg C7 (fun b hb hh => by have := lob b hb;have hh : b = _ := hh;omega);have fw7 := (((fw.chg ch4 (fun b hb => by have hb : b = _ := hb;omega)).chg ch5 (fun b hb => by have hb : b = _ := hb;omega)).chg ch6 (fun b hb => by have hb : b = _ := hb;omega)).chg C7 (fun b hb => by have hb : b = _ := hb;omega);have fb7 := (fb.chg ch6 (fun b hb => by have hb : b = _ := hb;omega)).chg C7 (fun b hb => by have hb : b = _ := hb;omega);subst hwl;subst hbl;refine ⟨ws,bv,q,q5,c,c5,rfl,HL.out _ _ rfl rfl,hwb,hbb,⟨bsw ++ bsb,own_lay (d := (0,i,o,ws,bv,())) ow7 ob7,nodup_app ndw ndb (fun x hx => by have := ltw x hx;omega) (fun x hx => lob x hx),?_,tw7.app tb7⟩,?_,(C5.late ch6 (fun b hb => by left;have hb : b = _ := hb;omega)).late C7 (fun b hb => by left;have hb : b = _ := hb;omega),fw7.base (by omega),fb7.base (by omega)⟩
  · intro b hb
    rcases List.mem_append.1 hb with h | h
    · have := low b h;omega
    · have := lob b h;omega
  · exact ((S5.chg ch6 (fun b hb => by have hb : b = _ := hb;omega)).chg C7 (fun b hb => by have hb : b = _ := hb;omega)).mono (by omega)
 case neg =>
  rw [if_neg hk0];obtain ⟨W1,rfl⟩ : ∃ W1,W1 = W0 := ⟨_,rfl⟩;go_enter Try.func97,Try.ntmps97;go_wp2_with fail;rw [← hW0];clear hW0;refine (l03Counts_any (sp := none) (w.heap.size + 1) 0 k i i W1 (b1.cell 0 rfl) (b1.cell 1 rfl) (b1.cell 2 rfl) hi hi).mono ?_;rintro e w2 ⟨rfl,e2⟩
  obtain ⟨nw,nb,hnw,hnb,lw,lb⟩ := cnt_bd (k := k) hi hi
  have HL : Hid (∀ a b : Nat,a = nw → b = nb → layB k i i a b = true) := hid (by
   rintro a b rfl rfl
   unfold layB;simp only [Bool.and_eq_true,jar,decide_eq_true_eq,Bool.or_eq_true];exact ⟨⟨by omega,by omega⟩,hi,hi,by first | exact Or.inr rfl | (right;simp),by omega,by omega⟩)
  rw [hnw,hnb];have S2 := H0.ext e2;have B2 := b1.ext e2;have Z2 := b0.ext e2;have E2 := E0.trans e2;clear hnw hnb b1 b0 H0 E0;have hz := E2.size;go_wp2_with fail;refine (drFloats_any sb K nw w2 S2 (by omega) (by omega)).mono ?_;rintro e w3 h3
  obtain ⟨ws,q,c,bsw,rfl,hwl,hwb,ow,ndw,low,tw,S3,c3,fw⟩ := gotFs_thing h3;have B3 := B2.chg c3 (fun hh => by omega);have Z3 := Z2.chg c3 (fun hh => by omega);have hlt2 := B2.lt;clear h3 S2;go_wp2_with (first | ((with_reducible show gx9);refine wl_stHB (j := 3) rfl rfl B3 rfl rfl rfl rfl ?_;intro w4 B4 ch4;have B4 : HB w4 (w.heap.size + 1) #[.int .i64 k,.int .i64 i,.int .i64 i,.slice q nw c,.slice none 0 0] 41 := B4;have Z4 := Z3.chg ch4 (fun hh => by omega);have S4 := S3.chg ch4 (fun b hb => by omega)) | fail);refine (drFloats_any sb (K + 2 + nw * 30) nb w4 S4 (by omega) (by omega)).mono ?_;rintro e w5 h5
  obtain ⟨bv,q5,c5,bsb,rfl,hbl,hbb,ob,ndb,lob,tb,S5,ch5,fb⟩ := gotFs_thing h5;have B5 := B4.chg ch5 (fun hh => by omega);have Z5 := Z4.chg ch5 (fun hh => by omega);clear h5 S4 S3;have k1 := c3.size;have k2 := ch4.size;have k3 := ch5.size;have ow4 := ow.chg ch4 (fun b hb hh => by have := low b hb;have hh : b = _ := hh;omega);have ow5 := ow4.chg ch5 (fun b hb hh => by have := low b hb;have hh : b = _ := hh;omega);have tw5 := (tw.chg ch4 (fun b hb hh => by have := low b hb;have hh : b = _ := hh;omega)).chg ch5 (fun b hb hh => by have := low b hb;have hh : b = _ := hh;omega);have ltw := ow.lt;have C5 := (((Chg.of_ext (S := fun b => b = sb) E2).trans c3).late ch4 (fun b hb => by left;have hb : b = _ := hb;omega)).trans ch5;go_wp2_with (first | ((with_reducible show gx9);refine wl_stHB (j := 4) rfl rfl B5 rfl rfl rfl rfl ?_;intro w6 B6 ch6;have B6 : HB w6 (w.heap.size + 1) #[.int .i64 k,.int .i64 i,.int .i64 i,.slice q nw c,.slice q5 nb c5] 41 := B6;have Z6 := Z5.chg ch6 (fun hh => by omega);have r0 := B6.cell 0 rfl;have r1 := B6.cell 1 rfl;have r2 := B6.cell 2 rfl;have r3 := B6.cell 3 rfl;have r4 := B6.cell 4 rfl;have f0 := Z6.froz 0;have f1 := Z6.froz 1;have f2 := Z6.froz 2;have f3 := Z6.froz 3;have f4 := Z6.froz 4;have z0 := Z6.cell 0 rfl;have z1 := Z6.cell 1 rfl;have z2 := Z6.cell 2 rfl;have z3 := Z6.cell 3 rfl;have z4 := Z6.cell 4 rfl) | fail);have Z7 : HB (((((w6.setCell ⟨w.heap.size,0,none⟩ (.int .i64 k)).setCell ⟨w.heap.size,1,none⟩ (.int .i64 i)).setCell ⟨w.heap.size,2,none⟩ (.int .i64 i)).setCell ⟨w.heap.size,3,none⟩ (.slice q nw c)).setCell ⟨w.heap.size,4,none⟩ (.slice q5 nb c5)) w.heap.size #[.int .i64 k,.int .i64 i,.int .i64 i,.slice q nw c,.slice q5 nb c5] 41 := ((((Z6.set 0 _).set 1 _).set 2 _).set 3 _).set 4 _;have C7 : Chg (fun b => b = w.heap.size) w6 (((((w6.setCell ⟨w.heap.size,0,none⟩ (.int .i64 k)).setCell ⟨w.heap.size,1,none⟩ (.int .i64 i)).setCell ⟨w.heap.size,2,none⟩ (.int .i64 i)).setCell ⟨w.heap.size,3,none⟩ (.slice q nw c)).setCell ⟨w.heap.size,4,none⟩ (.slice q5 nb c5)) := ((((jbc _ _ 0 _).trans (jbc _ _ 1 _)).trans (jbc _ _ 2 _)).trans (jbc _ _ 3 _)).trans (jbc _ _ 4 _);clear r0 r1 r2 r3 r4 f0 f1 f2 f3 f4 z0 z1 z2 z3 z4;generalize (((((w6.setCell ⟨w.heap.size,0,none⟩ (.int .i64 k)).setCell ⟨w.heap.size,1,none⟩ (.int .i64 i)).setCell ⟨w.heap.size,2,none⟩ (.int .i64 i)).setCell ⟨w.heap.size,3,none⟩ (.slice q nw c)).setCell ⟨w.heap.size,4,none⟩ (.slice q5 nb c5)) = W7 at *;have y0 := Z7.cell 0 rfl;have y1 := Z7.cell 1 rfl;have y2 := Z7.cell 2 rfl;have y3 := Z7.cell 3 rfl;have y4 := Z7.cell 4 rfl;refine bodyPost_ret (v := .agg #[.int .i64 k,.int .i64 i,.int .i64 i,.slice q nw c,.slice q5 nb c5]) (by simp [results,Try.results97,go_sem,y0,y1,y2,y3,y4]) rfl ?_;have k6 := ch6.size;have ow7 := (ow5.chg ch6 (fun b hb hh => by have := low b hb;have hh : b = _ := hh;omega)).chg C7 (fun b hb hh => by have := low b hb;have hh : b = _ := hh;omega);have ob7 := (ob.chg ch6 (fun b hb hh => by have := lob b hb;have hh : b = _ := hh;omega)).chg C7 (fun b hb hh => by have := lob b hb;have hh : b = _ := hh;omega);have tw7 := (tw5.chg ch6 (fun b hb hh => by have := low b hb;have hh : b = _ := hh;omega)).chg C7 (fun b hb hh => by have := low b hb;have hh : b = _ := hh;omega);have tb7 := (tb.chg ch6 (fun b hb hh => by have := lob b hb;have hh : b = _ := hh;omega)).chg C7 (fun b hb hh => by have := lob b hb;have hh : b = _ := hh;omega);have fw7 := (((fw.chg ch4 (fun b hb => by have hb : b = _ := hb;omega)).chg ch5 (fun b hb => by have hb : b = _ := hb;omega)).chg ch6 (fun b hb => by have hb : b = _ := hb;omega)).chg C7 (fun b hb => by have hb : b = _ := hb;omega);have fb7 := (fb.chg ch6 (fun b hb => by have hb : b = _ := hb;omega)).chg C7 (fun b hb => by have hb : b = _ := hb;omega);subst hwl;subst hbl;refine ⟨ws,bv,q,q5,c,c5,rfl,HL.out _ _ rfl rfl,hwb,hbb,⟨bsw ++ bsb,own_lay (d := (k,i,i,ws,bv,())) ow7 ob7,nodup_app ndw ndb (fun x hx => by have := ltw x hx;omega) (fun x hx => lob x hx),?_,tw7.app tb7⟩,?_,(C5.late ch6 (fun b hb => by left;have hb : b = _ := hb;omega)).late C7 (fun b hb => by left;have hb : b = _ := hb;omega),fw7.base (by omega),fb7.base (by omega)⟩
  · intro b hb
    rcases List.mem_append.1 hb with h | h
    · have := low b h;omega
    · have := lob b h;omega
  · exact ((S5.chg ch6 (fun b hb => by have hb : b = _ := hb;omega)).chg C7 (fun b hb => by have hb : b = _ := hb;omega)).mono (by omega)
theorem l02DrawSized_any (sb K R C : Nat) (w : World) (h : DrAt w sb K) (hR : R ≤ 16) (hC : C ≤ 16) (hK : K ≤ 1000000) : Calls Try.prog 49 #[.pointer (some ⟨sb,0,none⟩),.int .i64 R,.int .i64 C] w fun e w' => ∃ (xs : List Nat) (q : Option Addr) (c : Nat) (vs : List Value),e = .returned (.agg #[.int .i64 R,.int .i64 C,.slice q (R * C) c]) ∧ xs.length = R * C ∧ (∀ x ∈ xs,x < 4294967296) ∧ w'.ownsRow w.heap.size 33 1 (.slice q (R * C) c) (R * C) vs ∧ F32s vs xs ∧ DrAt w' sb (K + 10000) ∧ Chg (fun b => b = sb) w w' := by
 have hlt0 := h.lt;have hRC : R * C ≤ 16 * 16 := Nat.mul_le_mul hR hC;obtain ⟨W0,hW0⟩ : ∃ W0,W0 = w.alloc (.cells #[.int .i64 0,.int .i64 0,.slice none 0 0] 27) := ⟨_,rfl⟩;have E0 : Ext w W0 := by rw [hW0];exact Ext.alloc _ _
 have b0 : HB W0 w.heap.size #[.int .i64 0,.int .i64 0,.slice none 0 0] 27 := by rw [hW0];exact HB.new _ _ _
 have hm : IntKind.i64.wrap ((R : Int) * (C : Int)) = ((R * C : Nat) : Int) := by rw [← Int.natCast_mul];exact ja2 _ (by omega) (by omega)
 have H0 := h.ext E0;have z0 := b0.lt;generalize hRM : R * C = RM at *;go_enter Try.func49,Try.ntmps49;go_wp2_with fail;rw [← hW0];clear hW0;refine (drFloats_any sb K RM W0 H0 (by omega) (by omega)).mono ?_;rintro e w1 ⟨xs,hx,hxb,⟨q,c,vs,rfl,ho,hf⟩,S1,c1⟩
 rw [hx] at ho ⊢;have B1 := b0.chg c1 (fun hh => by omega);have n0 := B1.froz 0;have n1 := B1.froz 1;have n2 := B1.froz 2;have y0 := B1.cell 0 rfl;have y1 := B1.cell 1 rfl;have y2 := B1.cell 2 rfl;have HX := hid hx;clear hx;go_wp2;have Z7 : HB (((w1.setCell ⟨w.heap.size,0,none⟩ (.int .i64 R)).setCell ⟨w.heap.size,1,none⟩ (.int .i64 C)).setCell ⟨w.heap.size,2,none⟩ (.slice q RM c)) w.heap.size #[.int .i64 R,.int .i64 C,.slice q RM c] 27 := ((B1.set 0 _).set 1 _).set 2 _;have C7 : Chg (fun b => b = w.heap.size) w1 (((w1.setCell ⟨w.heap.size,0,none⟩ (.int .i64 R)).setCell ⟨w.heap.size,1,none⟩ (.int .i64 C)).setCell ⟨w.heap.size,2,none⟩ (.slice q RM c)) := ((jbc _ _ 0 _).trans (jbc _ _ 1 _)).trans (jbc _ _ 2 _);clear n0 n1 n2 y0 y1 y2;generalize (((w1.setCell ⟨w.heap.size,0,none⟩ (.int .i64 R)).setCell ⟨w.heap.size,1,none⟩ (.int .i64 C)).setCell ⟨w.heap.size,2,none⟩ (.slice q RM c)) = W7 at *;have y0 := Z7.cell 0 rfl;have y1 := Z7.cell 1 rfl;have y2 := Z7.cell 2 rfl;refine bodyPost_ret (v := .agg #[.int .i64 R,.int .i64 C,.slice q RM c]) (by simp [results,Try.results49,go_sem,y0,y1,y2]) rfl ?_;exact ⟨xs,q,c,vs,rfl,HX.out,hxb,jak (ja0 ho C7 (fun k hk hs => by have hs : k = _ := hs;have := jas ho k hk;omega)) (by omega),hf,(S1.chg C7 (fun b hb => by have hb : b = _ := hb;omega)).mono (by omega),((Chg.of_ext (S := fun b => b = sb) E0).trans c1).late C7 (fun b hb => by left;have hb : b = _ := hb;omega)⟩
theorem GrowOwn.snocC {S : Nat → Prop} {w0 w w' : World} {B : Nat} {te : TypeId} {E : Sh} {v : Value} {l : List E.T} {css : List (List Value)} {bss : List (List Nat)} (h : GrowOwn w0 B te E v l css bss) (hx : Chg S w0 w) (hS : ∀ b,S b → b < B) {cs : List Value} {d : E.T} {bs : List Nat}
 (ho : Own w E cs d bs) (hn : bs.Nodup) (hf : ∀ b ∈ bs,w0.heap.size ≤ b) (hB : B ≤ w0.heap.size) {g c n : Nat} (hln : l.length = n) (hr : w'.ownsRow B te E.sz (.slice (some ⟨g,0,none⟩) (n + 1) c) (n + 1) (css.flatten ++ cs)) (hg : w.grownBy w' v.ownBlock) (hw : v.ownBlock = some g ∨ w.heap.size ≤ g) :
 GrowOwn w' B te E (.slice (some ⟨g,0,none⟩) (n + 1) c) (l ++ [d]) (css ++ [cs]) (bss ++ [bs]) := by
 subst hln;have lt0 := h.els.lt;have hv : ∀ k,v.ownBlock = some k → k < w0.heap.size := own_lt h.row;have hsz := hx.size;have ch : Chg (fun k => some k = v.ownBlock) w w' := Chg.of_grown hg;have hlo := h.lo;refine ⟨by simpa [List.flatten_append] using hr,?_,?_,?_⟩
 · refine OwnEs.snoc ((h.els.chg hx (fun b hb hs => by have := (hlo b hb).1;have := hS b hs;omega)).chg ch (fun b hb hk => (hlo b hb).2 hk.symm)) (ho.chg ch fun b hb hk => ?_)
   have := hv b hk.symm;have := hf b hb;omega
 · rw [List.flatten_append,List.flatten_cons,List.flatten_nil,List.append_nil]
   exact nodup_app h.nodup hn lt0 hf
 · intro b hb
   rw [List.flatten_append,List.flatten_cons,List.flatten_nil,List.append_nil,List.mem_append] at hb
   have hlb : b < w.heap.size := by
    rcases hb with hb | hb
    · have := lt0 b hb;omega
    · exact ho.lt b hb
   refine ⟨?_,fun hk => ?_⟩
   · rcases hb with hb | hb
     · exact (hlo b hb).1
     · have := hf b hb;omega
   · simp [Value.ownBlock] at hk;subst hk
     rcases hw with hw | hw
     · rcases hb with hb | hb
       · exact (hlo _ hb).2 hw
       · have := hv _ hw;have := hf _ hb;omega
     · omega
def lastO (i0 : Int) (L : List jac.T) : Int := match L.getLast? with
 | some d => layO d
 | none => i0
def lastP? (L : List jac.T) (p : Option Int) : Option Int := match L.getLast? with
 | some d => some (layO d)
 | none => p
theorem modGo_snoc (d : jac.T) : ∀ (L : List jac.T) (p : Option Int),modGo p (L ++ [d]) = (modGo p L && (layD d && linkL (lastP? L p) d.2.1))
 | [],p => by simp [modGo,lastP?]
 | x :: L,p => by
   have ih := modGo_snoc d L (some (layO x))
   have hl : lastP? (x :: L) p = lastP? L (some (layO x)) := by
    unfold lastP?
    cases L with
    | nil => rfl
    | cons y L => rw [List.getLast?_cons_cons];cases h : (y :: L).getLast? with
      | none => simp at h
      | some z => rfl
   rw [List.cons_append,modGo,modGo,ih,hl]
   cases layD x <;> cases linkL p x.2.1 <;> simp
theorem lastO_snoc (i0 : Int) (L : List jac.T) (d : jac.T) : lastO i0 (L ++ [d]) = layO d := by simp [lastO]
def GoodL (i0 : Int) (L : List jac.T) : Prop := modGo none L = true ∧ 1 ≤ lastO i0 L ∧ lastO i0 L ≤ 8 ∧ Fit (.sl jac) L
theorem GoodL.snoc {i0 : Int} {L : List jac.T} (h : GoodL i0 L) {k o : Int} {ws bs : List Nat} (hl : layB k (lastO i0 L) o ws.length bs.length = true) (hw : ∀ x ∈ ws,x < 4294967296) (hb : ∀ x ∈ bs,x < 4294967296) : GoodL i0 (L ++ [(k,lastO i0 L,o,ws,bs,())]) := by
 obtain ⟨h1,h2,h3,h4⟩ := h;have hl2 := hl;unfold layB at hl2;simp only [Bool.and_eq_true,jar,decide_eq_true_eq,Bool.or_eq_true] at hl2;refine ⟨?_,?_,?_,?_⟩
 · rw [modGo_snoc,h1]
   have : layD (k,lastO i0 L,o,ws,bs,()) = true := hl;rw [this,Bool.true_and,Bool.true_and];show linkL (lastP? L none) (lastO i0 L) = true;unfold lastP? lastO
   cases L.getLast? with
   | none => rfl
   | some x => simp [linkL]
 · rw [lastO_snoc];exact hl2.2.2.1.1
 · rw [lastO_snoc];exact hl2.2.2.1.2
 · intro x hx
   rcases List.mem_append.1 hx with hx | hx
   · exact h4 x hx
   · simp at hx;subst hx
     have a1 : -9223372036854775808 ≤ k ∧ k ≤ 9223372036854775807 := by omega
     have a2 : -9223372036854775808 ≤ lastO i0 L ∧ lastO i0 L ≤ 9223372036854775807 := by omega
     have a3 : -9223372036854775808 ≤ o ∧ o ≤ 9223372036854775807 := by omega
     exact ⟨a1,a2,a3,hw,hb,trivial⟩
theorem GrowOwn.chgN {S : Nat → Prop} {w w' : World} {B : Nat} {te : TypeId} {E : Sh} {v : Value} {l : List E.T} {css : List (List Value)} {bss : List (List Nat)} (h : GrowOwn w B te E v l css bss) (k : Chg S w w') (h1 : ∀ b,v.ownBlock = some b → ¬ S b) (h2 : ∀ b ∈ bss.flatten,¬ S b) : GrowOwn w' B te E v l css bss :=
 ⟨ja0 h.row k h1,h.els.chg k (fun b hb hs => h2 b hb hs),h.nodup,h.lo⟩
def key (b : Nat) : Int := match FloatKind.f32.decode b with
 | .number s m e => Rnd.sg s (Rnd.cnt m e)
 | .infinity s => Rnd.sg s (pw 6000)
 | .nan _ _ => 0
section
variable {P : Program} {w : World} {ops : Array Oper} {rest : List Oper} {o o1 o2 : Oper} {a : Act} {Q : Exit → Act → World → Prop}
theorem wl_idxloadW {t e b : Nat} {z : Value} [SlTy P t e 1 z b] [Cell1 P e] {x ix : Operand} {d : Tmp} (hw1 : Region.wanted o1 (yielded ops a.tmps) = true) (ho1 : o1.op = .indexAddr t x ix) (hw2 : ∀ y,Region.wanted o2 (yielded ops (a.put o1.dst y).tmps) = true) (ho2 : o2.op = .load e (.tmp d))
 {p : Option Addr} {n c : Nat} {k : IntKind} {i : Int} (hd : ∀ y,(a.put o1.dst y).eval (.tmp d) = y)
 (hx : a.eval x = .slice p n c) (hi : a.eval ix = .int k i) {vs : List Value} (hc : Cs w p vs) (hvn : vs.length = n) (h0 : 0 ≤ i) (hn : i < n) {u : Value} (hu : vs[i.toNat]? = some u)
 (h : wpList P ops Q rest ((a.put o1.dst (.pointer (some (adr p i.toNat)))).put o2.dst u) w) : wpList P ops Q (o1 :: o2 :: rest) a w := by
 have hlt : i.toNat < vs.length := by omega
 have hp : p.isSome = true := hc.isS (by intro h;simp [h] at hlt);refine wl_valueW hw1 (w' := w) (v := .pointer (some (adr p i.toNat))) (by simp [execOp,ho1,hx,hi,run_indexAt hp h0 hn]) ?_;exact wl_valueW (hw2 _) (by simp [execOp,ho2,hd,jce (hc.cell _ _ hu)]) h
end
end Go.Proofs.Ytmbckkcgiafagaa
