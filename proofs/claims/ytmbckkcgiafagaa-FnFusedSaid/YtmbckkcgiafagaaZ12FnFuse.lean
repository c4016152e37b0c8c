/- A part of the proofs: Whn, AggW, Dr, Src3, Dr2, GrowX, Dr3, Dr4. -/
import Derived.Test.YtmbckkcgiafagaaZ11FnFuse
import Derived.Test.YtmbckkcgiafagaaZ06FnFuse
import Derived.Test.YtmbckkcgiafagaaZ07FnFuse
import Derived.Laws.Bits128
import Derived.Laws.BytesArg
import Derived.Laws.IdiomStrings
import Derived.Test.YtmbckkcgiafagaaZ09FnFuse
import Derived.Test.YtmbckkcgiafagaaZ03FnFuse
import Derived.Test.YtmbckkcgiafagaaZ08FnFuse
set_option linter.unusedSimpArgs false
set_option linter.unusedVariables false
set_option maxRecDepth 100000
set_option maxHeartbeats 16000000
namespace Go.Proofs.Ytmbckkcgiafagaa
namespace Ex
open Go.RowKit Ieee
def IZ (k : FloatKind) (b : Nat) (n : Int) : Prop := ∃ s m i,k.decode b = .number s m i ∧ -1074 ≤ i ∧ (m = 0 ∨ -500 ≤ i) ∧ vs s m i = n * U
theorem IZ.val {k : FloatKind} {b : Nat} {n : Int} (h : IZ k b n) : Val k b (n * U) := by
 obtain ⟨s,m,i,h1,h2,_,h3⟩ := h;exact ⟨s,m,i,h1,h2,h3⟩
theorem frac_le (k : FloatKind) : k.format.fractionBits + 1 ≤ 53 := by cases k <;> decide
theorem place_ge {q m : Nat} {p : Int} (hm : m < 2 ^ 53) (hp : -1074 ≤ p) (h : vm m p = q * U) : m = 0 ∨ -500 ≤ p := by
 rcases Nat.eq_zero_or_pos m with h0 | h0
 · exact .inl h0
 right
 refine Classical.byContradiction fun hc => ?_
 have hq : 1 ≤ q := by
  rcases Nat.eq_zero_or_pos q with hq | hq
  · rw [hq,Nat.zero_mul] at h;exact absurd (vm_eq_zero h) (by omega)
  · exact hq
 have h1 : vm m p < 2 ^ 53 * 2 ^ (p + 1074).toNat := by
  unfold vm;exact Nat.mul_lt_mul_of_pos_right hm (Nat.two_pow_pos _)
 rw [← Nat.pow_add] at h1;obtain ⟨E,hE⟩ : ∃ E : Nat,E = ((0 : Int) + 1074).toNat := ⟨_,rfl⟩
 have h2 : 2 ^ (53 + (p + 1074).toNat) ≤ 2 ^ E := Nat.pow_le_pow_right (by decide) (by omega)
 have h3 : 2 ^ E = U := by unfold U;exact congrArg (fun e => 2 ^ e) hE
 have h4 : 1 * U ≤ q * U := Nat.mul_le_mul_right U hq;omega
theorem iz_write (k : FloatKind) (s : Bool) {m : Nat} {p n : Int} (hp : -1074 ≤ p) (hn : n.natAbs < 2 ^ 24) (hv : vs s m p = n * U) : IZ k (k.encode (.number s m p)) n := by
 have ha : vm m p = n.natAbs * U := by
  have h := vs_abs s m p;rw [hv,Int.natAbs_mul] at h;exact h.symm
 obtain ⟨f1,f2,f3,f4,f5⟩ := fmt k;obtain ⟨k',p',h1,h2,h3,h4,h5⟩ := write_rep k.format s (k := m) (m := n.natAbs) (p := p) (e := 0) hp f1 (by omega) (Nat.lt_of_lt_of_le hn (Nat.pow_le_pow_right (by decide) f3)) (by rw [ha,vm_int]) f5;refine ⟨s,k',p',h1,by omega,place_ge (q := n.natAbs) (Nat.lt_of_lt_of_le h4 (Nat.pow_le_pow_right (by decide) (frac_le k))) (by omega) (by rw [h3,ha]),?_⟩;rw [← hv];unfold vs;rw [h3]
theorem vs_zero (s : Bool) (p : Int) : vs s 0 p = 0 := by unfold vs;rw [vm_zero];cases s <;> simp
theorem encode_zero (k : FloatKind) (s : Bool) (p : Int) : k.encode (.number s 0 p) = k.encode (.number s 0 0) := by
 show k.format.nearest s 0 p = k.format.nearest s 0 0;unfold Format.nearest;rw [if_pos rfl,if_pos rfl]
theorem iz_zero (k : FloatKind) (s : Bool) (p : Int) : IZ k (k.encode (.number s 0 p)) 0 := by
 rw [encode_zero];exact iz_write k s (by omega) (by decide) (by rw [vs_zero,Int.zero_mul])
theorem iz_add {k : FloatKind} {a b : Nat} {x y : Int} (ha : IZ k a x) (hb : IZ k b y) (h : (x + y).natAbs < 2 ^ 24) : IZ k (fop .add k a b) (x + y) := by
 obtain ⟨s,m,i,a1,a2,_,a3⟩ := ha;obtain ⟨t,n,j,b1,b2,_,b3⟩ := hb;obtain ⟨c,hc⟩ : ∃ c,c = min i j := ⟨_,rfl⟩;obtain ⟨T,hT⟩ : ∃ T,T = signed s m (i - c).toNat + signed t n (j - c).toNat := ⟨_,rfl⟩
 have hv : T * (2 ^ (c + 1074).toNat : Nat) = (x + y) * U := by
  rw [hT,Int.add_mul,vs_signed _ _ (by omega) (by omega),vs_signed _ _ (by omega) (by omega),a3,b3,Int.add_mul]
 have hsum : fop .add k a b = k.encode (.number (if T = 0 then s && t else decide (T < 0)) T.natAbs c) := by
  show (((k.decode a).sum (k.decode b)).map k.format.write).getD _ = _;rw [a1,b1];simp only [Datum.sum,← hc,← hT];rfl
 rw [hsum];refine iz_write k _ (by omega) h ?_;rw [← hv];unfold vs vm
 by_cases h0 : T = 0
 · rw [h0];simp
 · rw [if_neg h0]
   rcases Int.lt_or_le T 0 with hl | hl
   · rw [decide_eq_true hl,if_pos rfl,Int.natCast_mul,show ((T.natAbs : Nat) : Int) = -T by omega,Int.neg_mul,Int.neg_neg]
   · rw [decide_eq_false (by omega),if_neg (by simp),Int.natCast_mul,show ((T.natAbs : Nat) : Int) = T by omega]
theorem iz_mul {k : FloatKind} {a b : Nat} {x y : Int} (ha : IZ k a x) (hb : IZ k b y) (h : (x * y).natAbs < 2 ^ 24) : IZ k (fop .mul k a b) (x * y) := by
 obtain ⟨s,m,i,a1,a2,a4,a3⟩ := ha;obtain ⟨t,n,j,b1,b2,b4,b3⟩ := hb;have hU : (0 : Int) < U := by have := U_pos;omega
 have hpr : fop .mul k a b = k.encode (.number (s ^^ t) (m * n) (i + j)) := by
  show (((k.decode a).product (k.decode b)).map k.format.write).getD _ = _;rw [a1,b1];rfl
 rw [hpr]
 have zero : ∀ {v : Int},(0 : Int) = v * U → v = 0 := fun {v} hv => by
  rcases Int.mul_eq_zero.1 hv.symm with h | h
  · exact h
  · omega
 rcases a4 with rfl | a4
 · rw [vs_zero] at a3
   rw [zero a3,Int.zero_mul,Nat.zero_mul];exact iz_zero k _ _
 rcases b4 with rfl | b4
 · rw [vs_zero] at b3
   rw [zero b3,Int.mul_zero,Nat.mul_zero];exact iz_zero k _ _
 refine iz_write k _ (by omega) h ?_
 have key : vs (s ^^ t) (m * n) (i + j) * U = vs s m i * vs t n j := by
  have e1 : vm (m * n) (i + j) * U = vm m i * vm n j := by
   unfold vm U;rw [Nat.mul_assoc,← Nat.pow_add,show (i + j + 1074).toNat + ((0 : Int) + 1074).toNat = (i + 1074).toNat + (j + 1074).toNat by omega,Nat.pow_add]
   ac_rfl
  have e2 : (vm (m * n) (i + j) : Int) * U = (vm m i : Int) * (vm n j : Int) := by rw [← Int.natCast_mul,← Int.natCast_mul,e1]
  unfold vs
  cases s <;> cases t <;> simp [e2,Int.neg_mul,Int.mul_neg]
 rw [a3,b3] at key;refine Int.eq_of_mul_eq_mul_right (a := (U : Int)) (by omega) ?_;rw [key]
 ac_rfl
theorem iz_wide {b : Nat} {n : Int} (h : IZ .f32 b n) (hn : n.natAbs < 2 ^ 24) : IZ .f64 (jam .f32 b .f64) n := by
 obtain ⟨s,m,i,hd,h2,_,h4⟩ := h;obtain ⟨d1,d2,d3⟩ := dec32 hd;have hw := widen_small s (m := m) (e := i) (by omega) d3
 have hc : jam .f32 b .f64 = FloatKind.f64.encode (.number s m i) := by
  unfold jam floatToFloatBits;rw [if_neg (by decide),hd];simp [hw]
 rw [hc];exact iz_write .f64 s h2 hn h4
theorem iz_abs {s : Bool} {m : Nat} {p n : Int} (h : vs s m p = n * U) : vm m p = vm n.natAbs 0 := by
 have h1 := vs_abs s m p;rw [h,Int.natAbs_mul] at h1;rw [vm_int];exact h1.symm
theorem iz_back {x : Nat} {n : Int} (h : IZ .f64 x n) (hn : n.natAbs < 2 ^ 24) : IZ .f32 (jam .f64 x .f32) n ∧ fover .f64 x .f32 = false := by
 obtain ⟨s,m,i,hd,h2,_,h4⟩ := h;have ha := iz_abs h4;obtain ⟨k',p',g1,g2,g3,g4⟩ := back hd h2 hn (by decide) (by decide) ha;obtain ⟨d1,_,_⟩ := dec32 g1;refine ⟨⟨s,k',p',g1,g2,place_ge (q := n.natAbs) (Nat.lt_of_lt_of_le d1 (by decide)) g2 (by rw [g3,vm_int]),?_⟩,g4⟩;rw [← h4];unfold vs;rw [g3,ha]
theorem iz_near (k : FloatKind) {n : Int} (hn : n.natAbs < 2 ^ 24) : IZ k (k.nearest n) n := by
 have h : k.nearest n = k.encode (.number (decide (n < 0)) n.natAbs 0) := rfl;rw [h];exact iz_write k _ (by decide) hn (vs_near (vm_int _))
theorem iz_ne {k : FloatKind} {a b : Nat} {n : Int} (ha : IZ k a n) (hb : IZ k b n) : (k.format.order a b != some .eq) = false := by
 rw [Val.neq ha.val hb.val];simp
theorem iz_notNaN {k : FloatKind} {a : Nat} {n : Int} (h : IZ k a n) : (k.decode a).isNaN = false := by
 obtain ⟨s,m,i,h1,_⟩ := h;rw [h1];rfl
theorem iz_cn {k : FloatKind} {a : Nat} {n : Int} (h : IZ k a n) : IZ k (cn k a) n := by
 rw [jba (iz_notNaN h)];exact h
end Ex
end Go.Proofs.Ytmbckkcgiafagaa
namespace Go.Proofs.Ytmbckkcgiafagaa
open Go.RowKit
def OutT (w : World) (t : TypeId) (s : Sh) (r : s.T × Bool) (e : Ending) (w' : World) : Prop :=
 ∃ cs bs,e = .returned (.tuple #[ofCs s cs,.bool r.2]) ∧ Own w' s cs r.1 bs ∧ bs.Nodup ∧ (∀ b ∈ bs,w.heap.size ≤ b) ∧ (∀ b ∈ bs,∀ Z,w'.heap[b]? ≠ some (.cells Z t)) ∧ Ext w w'
def DrAt (w : World) (sb K : Nat) : Prop :=
 ∃ (p : Option Addr) (n c at' : Nat) (sd : Int) (bs : List Nat),HB w sb #[.slice p n c,.int .i64 (at' : Int),.int .u64 sd] 128 ∧ Cs w p (bs.map fun (b : Nat) => Value.int .u8 (b : Int)) ∧ bs.length = n ∧ n ≤ 1048576 ∧ (∀ b ∈ bs,b < 256) ∧ at' ≤ K ∧ 0 ≤ sd ∧ sd < 18446744073709551616 ∧ ((bs.map fun (b : Nat) => Value.int .u8 (b : Int)) ≠ [] → ∀ a,p = some a → a.block < sb)
theorem DrAt.mono {w : World} {sb K K' : Nat} (h : DrAt w sb K) (k : K ≤ K') : DrAt w sb K' := by
 obtain ⟨p,n,c,a,sd,bs,h1,h2,h3,h4,h5,h6,h7⟩ := h;exact ⟨p,n,c,a,sd,bs,h1,h2,h3,h4,h5,Nat.le_trans h6 k,h7⟩
theorem DrAt.ext {w w' : World} {sb K : Nat} (h : DrAt w sb K) (e : Ext w w') : DrAt w' sb K := by
 obtain ⟨p,n,c,a,sd,bs,h1,h2,h3,h4,h5,h6,h7⟩ := h;exact ⟨p,n,c,a,sd,bs,h1.ext e,h2.ext e,h3,h4,h5,h6,h7⟩
theorem DrAt.lt {w : World} {sb K : Nat} (h : DrAt w sb K) : sb < w.heap.size := by
 obtain ⟨p,n,c,a,sd,bs,h1,_⟩ := h;exact h1.lt
theorem DrAt.chg {S : Nat → Prop} {w w' : World} {sb K : Nat} (h : DrAt w sb K) (k : Chg S w w') (hS : ∀ b,S b → sb < b) : DrAt w' sb K := by
 have hlt := h.lt;obtain ⟨p,n,c,a,sd,bs,h1,h2,h3,h4,h5,h6,h7,h8,h9⟩ := h;refine ⟨p,n,c,a,sd,bs,h1.chg k (fun h => by have := hS _ h;omega),?_,h3,h4,h5,h6,h7,h8,h9⟩;refine h2.keep fun hn => ?_
 have hp1 := h2.isS hn;obtain ⟨q,rfl⟩ := Option.isSome_iff_exists.1 hp1;have hb := h9 hn q rfl;have ha : (adr (some q) 0).block = q.block := by rw [jbw];unfold Addr.add;split <;> rfl
 rw [ha];exact k.block _ (by omega) (fun h => by have := hS _ h;omega)
theorem wrap_u64_bd (x : Int) : 0 ≤ IntKind.u64.wrap x ∧ IntKind.u64.wrap x < 18446744073709551616 := by
 rw [IntKind.wrap_u64];omega
theorem cs_chg_lt {w w' : World} {sb : Nat} {p : Option Addr} {us : List Value} (h : Cs w p us) (k : Chg (fun b => b = sb) w w') (hp : us ≠ [] → ∀ a,p = some a → a.block < sb) (hs : sb < w.heap.size) : Cs w' p us := by
 cases us with
 | nil => exact Cs.nil _ _
 | cons u us =>
   have hp1 := h.isS (by simp);obtain ⟨a,rfl⟩ := Option.isSome_iff_exists.1 hp1;have hb := hp (by simp) a rfl;refine ⟨fun i v hv => ?_,h.isS⟩;have h1 := h.cell i v hv;have ha : (adr (some a) i).block = a.block := by rw [jbw];unfold Addr.add;split <;> rfl
   unfold World.cell? at h1 ⊢;rw [k.block _ (by rw [ha];omega) (by rw [ha];omega)];exact h1
theorem drNext_any (sb K : Nat) (w : World) (h : DrAt w sb K) (hK : K ≤ 1000000000) : Calls Try.prog 90 #[.pointer (some ⟨sb,0,none⟩)] w fun e w' => ∃ x : Nat,e = .returned (.int .i64 (x : Int)) ∧ x < 256 ∧ DrAt w' sb (K + 1) ∧ Chg (fun k => k = sb) w w' := by
 obtain ⟨p,n,c,at',sd,bs,h1,h2,h3,h4,h5,h6,h7,h8,h9⟩ := h;have k0 := h1.cell 0 rfl;have k1 := h1.cell 1 rfl;have k2 := h1.cell 2 rfl;have m0 := h1.froz 0;have m1 := h1.froz 1;have m2 := h1.froz 2;have hl : (bs.map fun (b : Nat) => Value.int .u8 (b : Int)).length = n := by simp [h3]
 have Hl := hid hl;have H5 := hid h5;have H3 := hid h3;clear hl;have h0 := hid h2;have HLT := hid h9;have HL2 := hid h1.lt
 by_cases hat : at' < n
 · have hb : at' < bs.length := by omega
   have hbv : (bs.map fun (b : Nat) => Value.int .u8 (b : Int))[at']? = some (.int .u8 ((bs[at']'hb : Nat) : Int)) := by simp [hb]
   have hb256 := h5 bs[at'] (by simp);generalize hbb : bs[at'] = bb at *;have wb : IntKind.i64.wrap (bb : Int) = (bb : Int) := jao _ (by omega) (by omega);have Hbv := hid hbv;clear hbv hbb h3 h5;go_enter Try.func90,Try.ntmps90;go_wp2;have d0 := (Ext.drew w).cell k0;have d1 := (Ext.drew w).cell k1;refine jab (F := fun _ _ _ => False) (by kernel_rfl) (by kernel_rfl) (by kernel_rfl) ?_;intro wf hwf
   repeat (first
    | ((first | (refine jar rfl ?_) | (refine x_mv rfl rfl rfl ?_) | (refine x_as rfl rfl rfl ?_));simp only [Act.put,jad,pu1,pu2,pu3,pu4,pu5])
    | (refine ja7 rfl fun K hK w1 hw1 => ?_;have k0 := hw1.cell (d0);have k1 := hw1.cell (d1);go_simp;refine hK _ ?_;clear hK K k0 k1 hw1 w1))
   refine ja6 ?_;have b2 := (h1.ext (Ext.drew w)).ext hwf;have k0 := b2.cell 0 rfl;have k1 := b2.cell 1 rfl;have k2 := b2.cell 2 rfl;have m0 := b2.froz 0;have m1 := b2.froz 1;have m2 := b2.froz 2;go_wp2;have b3 := b2.ext (Ext.drew _);have d0 := b3.cell 0 rfl;have d1 := b3.cell 1 rfl;have h2 := h2.ext ((Ext.drew w).trans (hwf.trans (Ext.drew _)));refine jab (F := fun _ _ _ => False) (by kernel_rfl) (by kernel_rfl) (by kernel_rfl) ?_;intro wf2 hwf2
   repeat (first
    | ((first | (refine jar rfl ?_) | (refine x_mv rfl rfl rfl ?_) | (refine x_as rfl rfl rfl ?_) | ((with_reducible show gx0);refine x_idxload rfl rfl (fun _ => rfl) rfl (fun _ => rfl) rfl rfl h2 Hl.out (by omega) (by omega) ?_;intro u hu;rw [Int.toNat_natCast,Hbv.out] at hu;cases hu));simp only [Act.put,jad,pu1,pu2,pu3,pu4,pu5])
    | (refine ja7 rfl fun K hK w1 hw1 => ?_;have k0 := hw1.cell (d0);have k1 := hw1.cell (d1);go_simp;refine hK _ ?_;clear hK K k0 k1 hw1 w1))
   refine ja6 ?_;have b4 := b3.ext hwf2;have k0 := b4.cell 0 rfl;have k1 := b4.cell 1 rfl;have k2 := b4.cell 2 rfl;have m0 := b4.froz 0;have m1 := b4.froz 1;have m2 := b4.froz 2;clear d0 d1;go_wp2;generalize hX : IntKind.u64.wrap (IntKind.u64.wrap (IntKind.u64.wrap (sd * 6364136223846793005) + (bb : Int)) + 1442695040888963407) = X at *;have hXb : 0 ≤ X ∧ X < 18446744073709551616 := by rw [← hX];exact wrap_u64_bd _
   clear hX;have b5 : HB ((wf2.setCell ⟨sb,1,none⟩ (.int .i64 ((at' : Int) + 1))).setCell ⟨sb,2,none⟩ (.int .u64 X)) sb #[.slice p n c,.int .i64 ((at' : Int) + 1),.int .u64 X] 128 := (b4.set 1 _).set 2 _;have ch : Chg (fun k => k = sb) w ((wf2.setCell ⟨sb,1,none⟩ (.int .i64 ((at' : Int) + 1))).setCell ⟨sb,2,none⟩ (.int .u64 X)) := Chg.mono (((Chg.of_ext (S := fun k => sb = k) ((Ext.drew w).trans (hwf.trans ((Ext.drew _).trans hwf2)))).setCell (p := ⟨sb,1,none⟩) rfl _).setCell (p := ⟨sb,2,none⟩) rfl _) (fun k h => h.symm);have hs : Cs ((wf2.setCell ⟨sb,1,none⟩ (.int .i64 ((at' : Int) + 1))).setCell ⟨sb,2,none⟩ (.int .u64 X)) p (bs.map fun (b : Nat) => Value.int .u8 (b : Int)) := cs_chg_lt h0.out ch HLT.out HL2.out;clear k0 k1 k2 m0 m1 m2;generalize ((wf2.setCell ⟨sb,1,none⟩ (.int .i64 ((at' : Int) + 1))).setCell ⟨sb,2,none⟩ (.int .u64 X)) = W2 at *;have b6 := b5.ext (Ext.drew W2);have d0 := b6.cell 0 rfl;have d1 := b6.cell 1 rfl;refine jab (F := fun _ _ _ => False) (by kernel_rfl) (by kernel_rfl) (by kernel_rfl) ?_;intro wf3 hwf3
   repeat (first
    | ((first | (refine jar rfl ?_) | (refine x_mv rfl rfl rfl ?_) | (refine x_as rfl rfl rfl ?_));simp only [Act.put,jad,pu1,pu2,pu3,pu4,pu5])
    | (refine ja7 rfl fun K hK w1 hw1 => ?_;have k0 := hw1.cell (d0);have k1 := hw1.cell (d1);go_simp;refine hK _ ?_;clear hK K k0 k1 hw1 w1))
   refine ja6 ?_;have E3 := (Ext.drew W2).trans hwf3;have b7 := b5.ext E3;clear d0 d1 b6;have hle : decide ((at' : Int) + 1 ≤ (n : Int)) = true := by simp;omega
   go_wp2;go_ret;exact ⟨bb,rfl,hb256,⟨p,n,c,at' + 1,X,bs,b7,hs.ext E3,H3.out,h4,H5.out,by omega,hXb.1,hXb.2,h9⟩,ch.trans (.of_ext E3)⟩
 · go_enter Try.func90,Try.ntmps90
   go_wp2;have d0 := (Ext.drew w).cell k0;have d1 := (Ext.drew w).cell k1;refine jab (F := fun _ _ _ => False) (by kernel_rfl) (by kernel_rfl) (by kernel_rfl) ?_;intro wf hwf
   repeat (first
    | ((first | (refine jar rfl ?_) | (refine x_mv rfl rfl rfl ?_) | (refine x_as rfl rfl rfl ?_));simp only [Act.put,jad,pu1,pu2,pu3,pu4,pu5])
    | (refine ja7 rfl fun K hK w1 hw1 => ?_;have k0 := hw1.cell (d0);have k1 := hw1.cell (d1);go_simp;refine hK _ ?_;clear hK K k0 k1 hw1 w1))
   refine ja6 ?_;have b2 := (h1.ext (Ext.drew w)).ext hwf;clear k0 k1 k2 m0 m1 m2 d0 d1;have k0 := b2.cell 0 rfl;have k1 := b2.cell 1 rfl;have k2 := b2.cell 2 rfl;have m0 := b2.froz 0;have m1 := b2.froz 1;have m2 := b2.froz 2;have hlt : decide ((at' : Int) < (n : Int)) = false := by simp;omega
   go_wp2;generalize hX : IntKind.u64.wrap (IntKind.u64.wrap (IntKind.u64.wrap (sd * 6364136223846793005)) + 1442695040888963407) = X at *;have hXb : 0 ≤ X ∧ X < 18446744073709551616 := by rw [← hX];exact wrap_u64_bd _
   clear hX;have b5 : HB ((wf.setCell ⟨sb,1,none⟩ (.int .i64 ((at' : Int) + 1))).setCell ⟨sb,2,none⟩ (.int .u64 X)) sb #[.slice p n c,.int .i64 ((at' : Int) + 1),.int .u64 X] 128 := (b2.set 1 _).set 2 _;have ch : Chg (fun k => k = sb) w ((wf.setCell ⟨sb,1,none⟩ (.int .i64 ((at' : Int) + 1))).setCell ⟨sb,2,none⟩ (.int .u64 X)) := Chg.mono (((Chg.of_ext (S := fun k => sb = k) ((Ext.drew w).trans hwf)).setCell (p := ⟨sb,1,none⟩) rfl _).setCell (p := ⟨sb,2,none⟩) rfl _) (fun k h => h.symm);have hs : Cs ((wf.setCell ⟨sb,1,none⟩ (.int .i64 ((at' : Int) + 1))).setCell ⟨sb,2,none⟩ (.int .u64 X)) p (bs.map fun (b : Nat) => Value.int .u8 (b : Int)) := cs_chg_lt h0.out ch HLT.out HL2.out;clear k0 k1 k2 m0 m1 m2;generalize ((wf.setCell ⟨sb,1,none⟩ (.int .i64 ((at' : Int) + 1))).setCell ⟨sb,2,none⟩ (.int .u64 X)) = W2 at *;have b6 := b5.ext (Ext.drew W2);have d0 := b6.cell 0 rfl;have d1 := b6.cell 1 rfl;refine jab (F := fun _ _ _ => False) (by kernel_rfl) (by kernel_rfl) (by kernel_rfl) ?_;intro wf3 hwf3
   repeat (first
    | ((first | (refine jar rfl ?_) | (refine x_mv rfl rfl rfl ?_) | (refine x_as rfl rfl rfl ?_));simp only [Act.put,jad,pu1,pu2,pu3,pu4,pu5])
    | (refine ja7 rfl fun K hK w1 hw1 => ?_;have k0 := hw1.cell (d0);have k1 := hw1.cell (d1);go_simp;refine hK _ ?_;clear hK K k0 k1 hw1 w1))
   refine ja6 ?_;have E3 := (Ext.drew W2).trans hwf3;have b7 := b5.ext E3;clear d0 d1 b6;have hle : decide ((at' : Int) + 1 ≤ (n : Int)) = false := by simp;omega
   have k2 := b7.cell 2 rfl
   obtain ⟨x,hx1,hx2⟩ : ∃ x : Nat,wrap64 (bits .and .u64 (X / 1099511627776) 255) = (x : Int) ∧ x < 256 := by
    have g := u64_and (X / 1099511627776) 255 (by omega) (by omega) (by omega) (by omega);rw [g];have g2 : (X / 1099511627776).toNat &&& (255 : Int).toNat ≤ 255 := Nat.and_le_right;generalize (X / 1099511627776).toNat &&& (255 : Int).toNat = z at g2;exact ⟨z,by unfold wrap64;omega,by omega⟩
   go_wp2;go_ret;exact ⟨x,by first | rfl | (rw [hx1];rfl),hx2,⟨p,n,c,at' + 1,X,bs,b7,hs.ext E3,h3,h4,h5,by omega,hXb.1,hXb.2,h9⟩,ch.trans (.of_ext E3)⟩
theorem emod_le (a m : Int) (h : 0 ≤ a) (hm : 0 < m) : a % m ≤ a := by
 rcases Int.lt_or_le a m with h1 | h1
 · rw [Int.emod_eq_of_lt h h1];exact Int.le_refl _
 · have := Int.emod_lt_of_pos a hm;omega
theorem jaw (sb K : Nat) (m : Int) (w : World) (h : DrAt w sb K) (hK : K ≤ 900000000) (hm : m ≤ 1000000) : Calls Try.prog 48 #[.pointer (some ⟨sb,0,none⟩),.int .i64 m] w fun e w' => ∃ x : Nat,e = .returned (.int .i64 (x : Int)) ∧ (1 ≤ m → (x : Int) < m) ∧ x < 65536 ∧ DrAt w' sb (K + 2) ∧ Chg (fun k => k = sb) w w' := by
 have A := hid (fun W K' (g : DrAt W sb K') (hk : K' ≤ 1000000000) => drNext_any sb K' W g hk);have H := hid h;clear h
 by_cases h1 : m ≤ 1
 · have d1 : decide (m ≤ 1) = true := decide_eq_true h1
   go_enter Try.func48,Try.ntmps48;go_wp2;go_ret;exact ⟨0,rfl,fun h => by omega,by omega,H.out.mono (by omega),Chg.refl _ _⟩
 · have d1 : decide (m ≤ 1) = false := decide_eq_false h1
   by_cases h2 : 200 < m
   · have d2 : decide (200 < m) = true := decide_eq_true h2
     have d3 : (m = 0) = False := by simp;omega
     have d4 : (m = -1) = False := by simp;omega
     go_enter Try.func48,Try.ntmps48;go_wp2_with fail;refine (A.out _ K H.out (by omega)).mono ?_;rintro e w1 ⟨x,rfl,hx,s1,c1⟩
     have S1 := hid s1;clear s1;go_wp2_with fail;refine (A.out _ (K + 1) S1.out (by omega)).mono ?_;rintro e w2 ⟨y,rfl,hy,s2,c2⟩
     have S2 := hid s2;clear s2;go_wp2;go_ret;have g1 := Int.emod_nonneg ((x : Int) * 256 + y) (show m ≠ 0 by omega);have g2 := Int.emod_lt_of_pos ((x : Int) * 256 + y) (show 0 < m by omega);have g3 := emod_le ((x : Int) * 256 + y) m (by omega) (by omega);exact ⟨(((x : Int) * 256 + y) % m).toNat,by rw [Int.toNat_of_nonneg g1];rfl,fun _ => by omega,by omega,S2.out,c1.trans c2⟩
   · have d2 : decide (200 < m) = false := decide_eq_false h2
     go_enter Try.func48,Try.ntmps48;go_wp2_with fail;refine (A.out _ K H.out (by omega)).mono ?_;rintro e w1 ⟨x,rfl,hx,s1,c1⟩
     have S1 := hid s1;clear s1;go_wp2;go_ret;have g1 := Int.emod_nonneg (x : Int) (show m ≠ 0 by omega);have g2 := Int.emod_lt_of_pos (x : Int) (show 0 < m by omega);have g3 := emod_le (x : Int) m (by omega) (by omega);exact ⟨((x : Int) % m).toNat,by rw [Int.toNat_of_nonneg g1];rfl,fun _ => by omega,by omega,S1.out.mono (by omega),c1⟩
theorem F32s.snoc1 {vs : List Value} {xs : List Nat} (h : F32s vs xs) (b : Nat) : F32s (vs ++ [.float .f32 b]) (xs ++ [cn .f32 b]) := by
 refine ⟨by simp [h.1],fun i hi => ?_⟩;rw [List.length_append] at hi
 by_cases hl : i < xs.length
 · obtain ⟨c,h1,h2⟩ := h.2 i hl
   exact ⟨c,by rw [List.getElem?_append_left (by rw [h.1];exact hl)];exact h1,by rw [h2];simp [List.getD_eq_getElem?_getD,List.getElem?_append_left hl]⟩
 · have : i = xs.length := by simp at hi;omega
   subst this;exact ⟨b,by rw [← h.1];simp,by simp⟩
def RetFl2 (w : World) (xs : List Nat) (e : Ending) (w' : World) : Prop :=
 ∃ q c vs,e = .returned (.slice q xs.length c) ∧ w'.ownsRow w.heap.size 33 1 (.slice q xs.length c) xs.length vs ∧ F32s vs xs
theorem ja2 {w w' : World} {B e s n : Nat} {v : Value} {vs : List Value} {S : Nat → Prop} (h : w.ownsRow B e s v n vs) (x : Chg S w w') (hS : ∀ k,v.ownBlock = some k → ¬ S k) : w'.ownsRow B e s v n vs := by
 have hlt0 := own_lt h;obtain ⟨h1,h2⟩ := h;refine ⟨h1,?_⟩;rcases h2 with h2 | ⟨g,cap,cur,hv,hg,hh,r⟩
 · exact .inl h2
 · have hob : v.ownBlock = some g := by rw [hv];rfl
   exact .inr ⟨g,cap,cur,hv,hg,by rw [x.block g (hlt0 g hob) (hS g hob)];exact hh,r⟩
theorem chg_grown {S : Nat → Prop} {w wr w1 : World} {row : Option Nat} (h : Chg S w wr) (g : wr.grownBy w1 row) (ho : ∀ k,row = some k → w.heap.size ≤ k) : Chg S w w1 :=
 ⟨g.os.trans h.os,g.tape.trans h.tape,g.output.trans h.output,Nat.le_trans h.size g.size,fun k hk hn => (g.block k (Nat.lt_of_lt_of_le hk h.size) (fun hb => by have := ho k hb.symm;omega)).trans (h.block k hk hn)⟩
theorem word_lt (s : Bool) {r : Nat} (hr : r ≤ (Ieee.single).infRung) : (Ieee.single).word s r < 4294967296 := by
 have h1 : (Ieee.single).infRung = 2139095040 := by decide
 have h2 : (Ieee.single).signWeight = 2147483648 := by decide
 unfold Ieee.Format.word
 split <;> omega
theorem write_lt {d : Ieee.Datum} (h : d.isNaN = false) : (Ieee.single).write d < 4294967296 := by
 cases d with
 | nan s t => simp [Ieee.Datum.isNaN] at h
 | infinity s => exact word_lt s (Nat.le_refl _)
 | number s m e =>
   show (Ieee.single).nearest s m e < 4294967296;unfold Ieee.Format.nearest;dsimp only
   split
   · exact word_lt s (Nat.zero_le _)
   · exact word_lt s (Nat.min_le_right _ _)
theorem map_lt {d : Option Ieee.Datum} (hd : ∀ x,d = some x → x.isNaN = false) {r : Nat} (h : d.map (Ieee.single).write = some r) : r < 4294967296 := by
 cases d with
 | none => cases h
 | some x => cases h;exact write_lt (hd x rfl)
theorem fop_lt (op : BinOp) (x y : Nat) : fop op .f32 x y < 4294967296 := by
 unfold fop
 cases h : floatBits op .f32 x y with
 | none => decide
 | some r =>
   show r < 4294967296;unfold floatBits at h
   split at h
   · exact map_lt (fun z hz => sum_not hz) h
   · exact map_lt (fun z hz => sum_not hz) h
   · exact map_lt (fun z hz => product_not hz) h
   · exact map_lt (fun z hz => quotient_not hz) h
   · cases h
theorem cn_lt {b : Nat} (h : b < 4294967296) : cn .f32 b < 4294967296 := by
 unfold cn;split
 · decide
 · exact h
theorem wrap_u32_bd (x : Int) : 0 ≤ IntKind.u32.wrap x ∧ IntKind.u32.wrap x < 4294967296 := by
 rw [IntKind.wrap_u32];omega
def u8s (bs : List Nat) : List Value := bs.map fun (b : Nat) => Value.int .u8 (b : Int)
theorem l00From_any (p : Option Addr) (n c : Nat) (bs : List Nat) (w : World) (hc : Cs w p (u8s bs)) (hl : bs.length = n) (hn : n ≤ 1048576) (hb : ∀ b ∈ bs,b < 256) :
 Calls Try.prog 47 #[.slice p n c] w fun e w' => e = .returned (.pointer (some ⟨w.heap.size,0,none⟩)) ∧ DrAt w' w.heap.size 0 ∧ Ext w w' := by
 have hlt : u8s bs ≠ [] → ∀ a,p = some a → a.block < w.heap.size := by
  intro hne a ha;subst ha;have := hc.blk hne;have ha : (adr (some a) 0).block = a.block := by rw [jbw];unfold Addr.add;split <;> rfl
  rw [ha] at this;exact this
 go_enter Try.func47,Try.ntmps47;go_wp2;go_ret;have e0 := Ext.alloc w (.cells #[.slice p n c,.int .i64 0,.int .u64 0] 128);exact ⟨rfl,⟨p,n,c,0,0,bs,HB.new w _ _,hc.ext e0,hl,hn,hb,Nat.le_refl _,by decide,by decide,hlt⟩,e0⟩
theorem drOne_any (sb K : Nat) (m : Int) (w : World) (h : DrAt w sb K) (hK : K ≤ 900000000) (hm : m ≤ 1000000) : Calls Try.prog 96 #[.pointer (some ⟨sb,0,none⟩),.int .i64 m] w fun e w' => ∃ b : Bool,e = .returned (.bool b) ∧ DrAt w' sb (K + 2) ∧ Chg (fun k => k = sb) w w' := by
 go_enter Try.func96,Try.ntmps96;go_wp2_with fail;refine (jaw sb K m w h hK hm).mono ?_;rintro e w1 ⟨x,rfl,hx,hx2,s1,c1⟩
 have S1 := hid s1;clear s1;go_wp2;go_ret;exact ⟨_,rfl,S1.out,c1⟩
theorem drAmong_any (sb K : Nat) (p : Option Addr) (n c : Nat) (zs : List Int) (w : World) (h : DrAt w sb K) (hK : K ≤ 900000000) (hc : Cs w p (zs.map (Value.int .i64))) (hl : zs.length = n) (h1 : 1 ≤ n) (hn : n ≤ 1000) (hp : ∀ a,p = some a → sb < a.block) :
 Calls Try.prog 118 #[.pointer (some ⟨sb,0,none⟩),.slice p n c] w fun e w' => ∃ z : Int,z ∈ zs ∧ e = .returned (.int .i64 z) ∧ DrAt w' sb (K + 2) ∧ Chg (fun k => k = sb) w w' := by
 have hlen : (zs.map (Value.int .i64)).length = n := by simp [hl]
 go_enter Try.func118,Try.ntmps118;go_wp2_with fail;refine (jaw sb K n w h hK (by omega)).mono ?_;rintro e w1 ⟨x,rfl,hx,hx2,s1,c1⟩
 have S1 := hid s1;have hxn : x < n := by have := hx (by omega);omega
 have hcs : Cs w1 p (zs.map (Value.int .i64)) := hc.keep fun hne => by
  have hp1 := hc.isS hne;obtain ⟨q,rfl⟩ := Option.isSome_iff_exists.1 hp1;have hb := hp q rfl;have hbl := hc.blk hne;have ha : (adr (some q) 0).block = q.block := by rw [jbw];unfold Addr.add;split <;> rfl
  rw [ha] at hbl ⊢;exact c1.block _ hbl (by omega)
 have hxz : x < zs.length := by omega
 have hv : (zs.map (Value.int .i64))[x]? = some (.int .i64 zs[x]) := by simp [hxz]
 have hmem : zs[x] ∈ zs := by simp
 generalize zs[x] = z at *;have Hv := hid hv;have Hl := hid hlen;clear s1 hx hv hlen hl;go_wp2_with ((with_reducible show gx2);refine wl_idxload rfl rfl rfl rfl (fun _ => rfl) rfl rfl hcs Hl.out (by omega) (by omega) ?_;intro u hu;rw [Int.toNat_natCast,Hv.out] at hu;cases hu);go_ret;exact ⟨z,hmem,rfl,S1.out,c1⟩
def GotF (sb K : Nat) (w : World) (e : Ending) (w' : World) : Prop := ∃ b : Nat,e = .returned (.float .f32 b) ∧ cn .f32 b < 4294967296 ∧ DrAt w' sb K ∧ Chg (fun k => k = sb) w w'
theorem drPlain_any (sb K : Nat) (w : World) (h : DrAt w sb K) (hK : K ≤ 800000000) : Calls Try.prog 89 #[.pointer (some ⟨sb,0,none⟩)] w (GotF sb (K + 4) w) := by
 go_enter Try.func89,Try.ntmps89;go_wp2_with fail;refine (jaw sb K 129 w h (by omega) (by omega)).mono ?_;rintro e w1 ⟨x,rfl,hx,hx2,s1,c1⟩
 have S1 := hid s1;clear s1;go_wp2_with fail;refine (drOne_any sb (K + 2) 4 w1 S1.out (by omega) (by omega)).mono ?_;rintro e w2 ⟨b,rfl,s2,c2⟩
 have S2 := hid s2;clear s2
 cases b
 · go_wp2_with ((with_reducible show gx3);refine wl_fop rfl rfl rfl rfl rfl ?_;intro r0 w0 e0 g0;have G0 := hid g0;clear g0)
   go_ret;exact ⟨_,rfl,by rw [G0.out];exact fop_lt _ _ _,S2.out.ext e0,(c1.trans c2).trans (.of_ext e0)⟩
 · go_wp2_with ((with_reducible show gx3);refine wl_fop rfl rfl rfl rfl rfl ?_;intro r0 w0 e0 g0;have G0 := hid g0;clear g0)
   go_ret;exact ⟨_,rfl,by rw [G0.out];exact fop_lt _ _ _,S2.out.ext e0,(c1.trans c2).trans (.of_ext e0)⟩
theorem l01From_any (n : Int) (w : World) : Calls Try.prog 158 #[.int .i64 n] w fun e w' => (∃ b : Nat,e = .returned (.float .f32 b) ∧ cn .f32 b < 4294967296) ∧ Ext w w' := by
 have hxf := fun k => run_f32from k
 have hbd := wrap_u32_bd n;go_enter Try.func158,Try.ntmps158;go_wp2;go_ret;exact ⟨⟨_,rfl,cn_lt (by omega)⟩,Ext.refl _⟩
theorem cs_heap {w : World} {b : Nat} {Z : Array Value} {t : TypeId} (h : w.heap[b]? = some (.cells Z t)) : Cs w (some ⟨b,0,none⟩) Z.toList := by
 refine ⟨fun i u hu => ?_,fun _ => rfl⟩;rw [jap];unfold World.cell?;rw [h]
 simpa using hu
theorem GotF.mono {sb K K' : Nat} {w w' : World} {e : Ending} (h : GotF sb K w e w') (k : K ≤ K') : GotF sb K' w e w' := by
 obtain ⟨b,h1,hb,h2,h3⟩ := h;exact ⟨b,h1,hb,h2.mono k,h3⟩
theorem drFloat_any (sb K : Nat) (w : World) (h : DrAt w sb K) (hK : K ≤ 700000000) : Calls Try.prog 134 #[.pointer (some ⟨sb,0,none⟩)] w (GotF sb (K + 30) w) := by
 have HLT := hid h.lt;go_enter Try.func134,Try.ntmps134;go_wp2_with fail;refine (drOne_any sb K 12 w h (by omega) (by omega)).mono ?_;rintro e w1 ⟨b,rfl,s1,c1⟩
 have S1 := hid s1;clear s1 h
 cases b
 · go_wp2_with fail
   refine (drPlain_any sb (K + 2) w1 S1.out (by omega)).mono ?_;rintro e w2 ⟨b,rfl,hb,s2,c2⟩
   have S2 := hid s2;clear s2;go_wp2;go_ret;exact ⟨b,rfl,hb,S2.out.mono (by omega),c1.trans c2⟩
 · go_wp2_with fail
   refine (jaw sb (K + 2) 4 w1 S1.out (by omega) (by omega)).mono ?_;rintro e w2 ⟨x,rfl,hx,hx2,s2,c2⟩
   have S2 := hid s2;have C2 := hid (c1.trans c2);have HLT2 := hid s2.lt;clear s2 c1 c2 hx hx2
   by_cases h0 : x = 0
   · subst h0
     have k1 := HB.new w2 #[.int .i64 0,.int .i64 2147483648,.int .i64 2139095040,.int .i64 4286578688,.int .i64 2143289344,.int .i64 1,.int .i64 2139095039,.int .i64 8388608,.int .i64 8388607,.int .i64 2147483649] 2;have e3 := Ext.alloc w2 (.cells #[.int .i64 0,.int .i64 2147483648,.int .i64 2139095040,.int .i64 4286578688,.int .i64 2143289344,.int .i64 1,.int .i64 2139095039,.int .i64 8388608,.int .i64 8388607,.int .i64 2147483649] 2);obtain ⟨w3,hw3⟩ : ∃ w3,w3 = w2.alloc (.cells #[.int .i64 0,.int .i64 2147483648,.int .i64 2139095040,.int .i64 4286578688,.int .i64 2143289344,.int .i64 1,.int .i64 2139095039,.int .i64 8388608,.int .i64 8388607,.int .i64 2147483649] 2) := ⟨_,rfl⟩;rw [← hw3] at k1 e3;have K1 := hid (cs_heap k1);clear k1;go_wp2_with fail;rw [← hw3];clear hw3;refine (drAmong_any sb (K + 4) _ 10 10 [0,2147483648,2139095040,4286578688,2143289344,1,2139095039,8388608,8388607,2147483649] w3 (S2.out.ext e3) (by omega) K1.out rfl (by omega) (by omega) (fun a ha => by cases ha;exact HLT2.out)).mono ?_;rintro e w4 ⟨z,_,rfl,s4,c4⟩
     have S4 := hid s4;clear s4;go_wp2_with fail;refine (l01From_any z w4).mono ?_;rintro e w5 ⟨⟨b,rfl,hb⟩,e5⟩
     go_wp2;go_ret;exact ⟨b,rfl,hb,(S4.out.ext e5).mono (by omega),((C2.out.trans (.of_ext e3)).trans c4).trans (.of_ext e5)⟩
   by_cases h1 : x = 1
   · subst h1
     go_wp2_with fail;refine (jaw sb (K + 4) 65536 w2 S2.out (by omega) (by omega)).mono ?_;rintro e w3 ⟨y,rfl,_,_,s3,c3⟩
     have S3 := hid s3;clear s3;go_wp2_with fail;refine (jaw sb (K + 6) 65536 w3 S3.out (by omega) (by omega)).mono ?_;rintro e w4 ⟨z,rfl,_,_,s4,c4⟩
     have S4 := hid s4;clear s4;go_wp2_with fail;refine (l01From_any _ w4).mono ?_;rintro e w5 ⟨⟨b,rfl,hb⟩,e5⟩
     go_wp2;go_ret;exact ⟨b,rfl,hb,(S4.out.ext e5).mono (by omega),((C2.out.trans c3).trans c4).trans (.of_ext e5)⟩
   have n1 : ((x : Int) = 1) = False := by simp;omega
   have n0 : ((x : Int) = 0) = False := by simp;omega
   by_cases h2 : x = 2
   · subst h2
     go_wp2_with fail;refine (jaw sb (K + 4) 65536 w2 S2.out (by omega) (by omega)).mono ?_;rintro e w3 ⟨y,rfl,_,_,s3,c3⟩
     have S3 := hid s3;clear s3;go_wp2_with fail;refine (l01From_any _ w3).mono ?_;rintro e w5 ⟨⟨b,rfl,hb⟩,e5⟩
     go_wp2;go_ret;exact ⟨b,rfl,hb,(S3.out.ext e5).mono (by omega),(C2.out.trans c3).trans (.of_ext e5)⟩
   have n2 : ((x : Int) = 2) = False := by simp;omega
   go_wp2_with fail;refine (drPlain_any sb (K + 4) w2 S2.out (by omega)).mono ?_;rintro e w3 ⟨bx,rfl,_,s3,c3⟩
   have S3 := hid s3;have HLT3 := hid s3.lt;clear s3;have k1 := HB.new w3 #[.int .i64 8388608,.int .i64 2130706432,.int .i64 1610612736,.int .i64 536870912] 2;have e3 := Ext.alloc w3 (.cells #[.int .i64 8388608,.int .i64 2130706432,.int .i64 1610612736,.int .i64 536870912] 2);obtain ⟨w4,hw4⟩ : ∃ w4,w4 = w3.alloc (.cells #[.int .i64 8388608,.int .i64 2130706432,.int .i64 1610612736,.int .i64 536870912] 2) := ⟨_,rfl⟩;rw [← hw4] at k1 e3;have K1 := hid (cs_heap k1);clear k1;go_wp2_with fail;rw [← hw4];clear hw4;refine (drAmong_any sb (K + 8) _ 4 4 [8388608,2130706432,1610612736,536870912] w4 (S3.out.ext e3) (by omega) K1.out rfl (by omega) (by omega) (fun a ha => by cases ha;exact HLT3.out)).mono ?_;rintro e w5 ⟨z,_,rfl,s5,c5⟩
   have S5 := hid s5;clear s5;go_wp2_with fail;refine (l01From_any z w5).mono ?_;rintro e w6 ⟨⟨b,rfl,hb⟩,e6⟩
   go_wp2_with ((with_reducible show gx3);refine wl_fop rfl rfl rfl rfl rfl ?_;intro r0 w0 e0 g0;have G0 := hid g0;clear g0);go_ret;exact ⟨_,rfl,by rw [G0.out];exact fop_lt _ _ _,((S5.out.ext e6).ext e0).mono (by omega),(((C2.out.trans c3).trans (.of_ext e3)).trans c5).trans (.of_ext (e6.trans e0))⟩
def GotFs (sb K n : Nat) (w : World) (e : Ending) (w' : World) : Prop := ∃ xs : List Nat,xs.length = n ∧ (∀ x ∈ xs,x < 4294967296) ∧ RetFl2 w xs e w' ∧ DrAt w' sb K ∧ Chg (fun k => k = sb) w w'
theorem drFloats_any (sb K n : Nat) (w : World) (h : DrAt w sb K) (hn : n ≤ 100000) (hK : K ≤ 100000000) : Calls Try.prog 91 #[.pointer (some ⟨sb,0,none⟩),.int .i64 n] w (GotFs sb (K + 2 + n * 30) n w) := by
 have hlt0 := h.lt;have hstart : (w.alloc (.cells #[] 33)).ownsRow w.heap.size 33 1 (.slice (some ⟨w.heap.size,0,none⟩) 0 0) 0 [] := World.ownsRow_made w #[] 0 (Nat.le_refl _) (by decide) rfl;have hsrc := h.ext (Ext.alloc w (.cells #[] 33));have c0 : Chg (fun k => k = sb) w (w.alloc (.cells #[] 33)) := .of_ext (Ext.alloc _ _);obtain ⟨w0,hw0⟩ : ∃ w0,w0 = w.alloc (.cells #[] 33) := ⟨_,rfl⟩;rw [← hw0] at hstart hsrc c0;clear h;go_enter Try.func91,Try.ntmps91;go_wp2_with fail;rw [← hw0];clear hw0;refine (drOne_any sb K 4 w0 hsrc (by omega) (by omega)).mono ?_;rintro e w1 ⟨sg,rfl,s1,c1⟩
 have O1 := ja2 hstart c1 (fun k hk => by have := jah hstart k hk;omega);have C1 := c0.trans c1;clear hstart hsrc c0 c1;go_wp2;go_loopw [1,5] (fun nv ov wr => ∃ (i : Nat) (vs : List Value) (xs : List Nat) (q : Option Addr) (cq : Nat),i ≤ n ∧ nv = .int .i64 ((n : Int) - (i : Int)) ∧ ov = .slice q i cq ∧ wr.ownsRow w.heap.size 33 1 (.slice q i cq) i vs ∧ Hid (F32s vs xs) ∧ Hid (xs.length = i ∧ ∀ x ∈ xs,x < 4294967296) ∧ DrAt wr sb (K + 2 + i * 30) ∧ Chg (fun k => k = sb) w wr) (fun nv _ _ => (intOf nv).toNat)
 case atStart => exact ⟨0,[],[],_,_,by omega,by simp,rfl,O1,F32s.nil,hid ⟨rfl,fun x hx => by simp at hx⟩,by simpa using s1,C1⟩
 case round =>
  clear O1 C1 s1;obtain ⟨i,vs,xs,q,cq,hi,rfl,rfl,own0,HF,HX,src,hch⟩ := hrel;have hB := hch.size
  by_cases hlt : i < n
  · have hgt : decide (0 < (n : Int) - (i : Int)) = true := by simp;omega
    have C : ∀ e w1,GotF sb (K + 2 + i * 30 + 30) wr e w1 → ∃ r : Nat,e = .returned (.float .f32 r) ∧ cn .f32 r < 4294967296 ∧ DrAt w1 sb (K + 2 + i * 30 + 30) ∧ Chg (fun k => k = sb) wr w1 := fun e w1 h => h
    cases sg
    all_goals
     go_wp2_with fail
     first
      | refine ((drPlain_any sb (K + 2 + i * 30) wr src (by omega)).mono fun e w2 h => C e w2 (h.mono (by omega))).mono ?_
      | refine ((drFloat_any sb (K + 2 + i * 30) wr src (by omega)).mono fun e w2 h => C e w2 (h.mono (by omega))).mono ?_
     rintro e w1 ⟨r,rfl,hr,src1,ch1⟩
     have own1 := ja2 own0 ch1 (fun k hk => by have := jah own0 k hk;omega);have hch1 := hch.trans ch1;have hB1 := hch1.size;go_wp2_with ((with_reducible show gx9);refine ja4 (u := .float .f32 r) rfl rfl rfl rfl rfl rfl rfl (fun _ => rfl) (fun _ => rfl) own1 (by unfold maxLen;omega) (by omega) (by omega) ?_;intro g c w2 own2 g2 hg2);go_roundw
     case rel =>
      have own3 : w2.ownsRow w.heap.size 33 1 (.slice (some ⟨g,0,none⟩) (i + 1) c) (i + 1) (vs ++ [.float .f32 r]) := own2;refine ⟨i + 1,vs ++ [.float .f32 r],xs ++ [cn .f32 r],_,_,by omega,by go_num,rfl,own3,hid (HF.out.snoc1 r),hid ⟨by rw [List.length_append,HX.out.1];rfl,fun x hx => by rcases List.mem_append.1 hx with hx | hx;exact HX.out.2 x hx;simp at hx;subst hx;exact hr⟩,?_,chg_grown hch1 g2 (fun k hk => jah own1 k hk)⟩;refine (src1.chg (.of_grown g2) (fun b hb => by have := jah own1 b hb.symm;omega)).mono (by omega)
     case measure => simp [intOf];omega
  · obtain rfl : i = n := by omega
    go_wp2;go_ret;exact ⟨xs,HX.out.1,HX.out.2,⟨q,cq,vs,by rw [HX.out.1];rfl,by rw [HX.out.1];exact own0,HF.out⟩,src,hch⟩
theorem chg_new {w w0 w' : World} {sb : Nat} (e : Ext w w0) (k : Chg (fun b => b = sb) w0 w') (h : w.heap.size ≤ sb) : Ext w w' :=
 e.chg k (fun b hb => by subst hb;exact h)
theorem B10Whole_any (p : Option Addr) (n c : Nat) (bs : List Nat) (N most : Nat) (w : World) (hc : Cs w p (u8s bs)) (hl : bs.length = n) (hn : n ≤ 1048576) (hb : ∀ b ∈ bs,b < 256) (hN : N ≤ 100000) (hm : most ≤ 1000) :
 Calls Try.prog 40 #[.slice p n c,.int .i64 N,.int .i64 most] w fun e w' => ∃ zs : List Int,zs.length = N ∧ (∀ z ∈ zs,-(most : Int) ≤ z ∧ z ≤ most) ∧ RetFl w (zs.map FloatKind.f32.nearest) e w' := by
 go_enter Try.func40,Try.ntmps40;go_wp2_with fail;refine (l00From_any p n c bs w hc hl hn hb).mono ?_;rintro e w1 ⟨rfl,src,e1⟩
 have hsb := src.lt;have hstart : (w1.alloc (.cells #[] 33)).ownsRow w1.heap.size 33 1 (.slice (some ⟨w1.heap.size,0,none⟩) 0 0) 0 [] := World.ownsRow_made w1 #[] 0 (Nat.le_refl _) (by decide) rfl;have hsrc := src.ext (Ext.alloc w1 (.cells #[] 33));have E1 := e1.trans (Ext.alloc w1 (.cells #[] 33));have hs1 : w1.heap.size ≤ (w1.alloc (.cells #[] 33)).heap.size := (Ext.alloc w1 (.cells #[] 33)).size;have hsz := e1.size;clear src;go_wp2;go_loopw [1,8] (fun nv ov wr => ∃ (i : Nat) (vs : List Value) (zs : List Int) (q : Option Addr) (cq : Nat),i ≤ N ∧ nv = .int .i64 ((N : Int) - (i : Int)) ∧ ov = .slice q i cq ∧ wr.ownsRow w1.heap.size 33 1 (.slice q i cq) i vs ∧ Hid (F32s vs (zs.map FloatKind.f32.nearest)) ∧ Hid (zs.length = i ∧ ∀ z ∈ zs,-(most : Int) ≤ z ∧ z ≤ most) ∧ DrAt wr w.heap.size (i * 2) ∧ Ext w wr ∧ w1.heap.size ≤ wr.heap.size) (fun nv _ _ => (intOf nv).toNat)
 case atStart => exact ⟨0,[],[],_,_,by omega,by simp,rfl,hstart,F32s.nil,hid ⟨rfl,fun z hz => by simp at hz⟩,hsrc,E1,hs1⟩
 case round =>
  clear hstart hsrc hs1 E1;obtain ⟨i,vs,zs,q,cq,hi,rfl,rfl,own0,HF,HX,src,hch,hB⟩ := hrel
  by_cases hlt : i < N
  · have hgt : decide (0 < (N : Int) - (i : Int)) = true := by simp;omega
    have hw : IntKind.i64.wrap (IntKind.i64.wrap (2 * (most : Int)) + 1) = 2 * (most : Int) + 1 := by rw [show IntKind.i64.wrap (2 * (most : Int)) = 2 * (most : Int) from jao _ (by omega) (by omega)];exact jao _ (by omega) (by omega)
    go_wp2_with fail;refine (jaw w.heap.size (i * 2) (2 * (most : Int) + 1) wr src (by omega) (by omega)).mono ?_;rintro e w2 ⟨x,rfl,hx,hx2,src1,ch1⟩
    have hxm := hx (by omega);have own1 := ja2 own0 ch1 (fun k hk => by have := jah own0 k hk;omega);have hch1 := chg_new hch ch1 (Nat.le_refl _);have hB1 := ch1.size;have hwx : IntKind.i64.wrap ((x : Int) - (most : Int)) = (x : Int) - (most : Int) := jao _ (by omega) (by omega);clear hx hx2;go_wp2_with ((with_reducible show gx9);refine ja4 (u := .float .f32 (FloatKind.f32.nearest ((x : Int) - (most : Int)))) rfl rfl rfl rfl rfl rfl rfl (fun _ => rfl) (fun _ => rfl) own1 (by unfold maxLen;omega) (by omega) (by omega) ?_;intro g c w3 own2 g2 hg2);go_roundw
    case rel =>
     have own3 : w3.ownsRow w1.heap.size 33 1 (.slice (some ⟨g,0,none⟩) (i + 1) c) (i + 1) (vs ++ [.float .f32 (FloatKind.f32.nearest ((x : Int) - (most : Int)))]) := own2;refine ⟨i + 1,_,zs ++ [(x : Int) - (most : Int)],_,_,by omega,by go_num,rfl,own3,?_,hid ⟨by rw [List.length_append,HX.out.1];rfl,?_⟩,?_,hch1.grown g2 (fun k hk => by have := jah own1 k hk;omega),Nat.le_trans hB (Nat.le_trans hB1 g2.size)⟩
     · have := HF.out.snoc1 (FloatKind.f32.nearest ((x : Int) - (most : Int)))
       rw [cn_nearest] at this;rw [Hid,List.map_append];exact this
     · intro z hz
       rcases List.mem_append.1 hz with hz | hz
       · exact HX.out.2 z hz
       · simp at hz;subst hz;omega
     · exact (src1.chg (.of_grown g2) (fun b hb => by have := jah own1 b hb.symm;omega)).mono (by omega)
    case measure => simp [intOf];omega
  · obtain rfl : i = N := by omega
    go_wp2;go_ret;have hl := HX.out.1;exact ⟨zs,hl,HX.out.2,q,cq,vs,by rw [List.length_map,hl];rfl,by rw [List.length_map,hl];exact ja0 own0 hsz,HF.out,hch⟩
def GotT (R C : Nat) (w : World) (e : Ending) (w' : World) : Prop := ∃ (xs : List Nat) (q : Option Addr) (c : Nat) (vs : List Value),e = .returned (.agg #[.int .i64 R,.int .i64 C,.slice q (R * C) c]) ∧ xs.length = R * C ∧ (∀ x ∈ xs,x < 4294967296) ∧ w'.ownsRow w.heap.size 33 1 (.slice q (R * C) c) (R * C) vs ∧ F32s vs xs ∧ Ext w w'
end Go.Proofs.Ytmbckkcgiafagaa
