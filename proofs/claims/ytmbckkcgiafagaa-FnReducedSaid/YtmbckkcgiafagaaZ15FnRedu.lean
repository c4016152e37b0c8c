/- A part of the proofs: R8Sm, RedP, RedQ, HRequest, Req, R8S, BNum, NumB, Arch, NumberBytesLaw. -/
import Derived.Test.YtmbckkcgiafagaaZ14FnRedu
import Derived.Test.YtmbckkcgiafagaaZ10FnRedu
import Derived.Test.YtmbckkcgiafagaaZ13FnRedu
import Derived.Test.YtmbckkcgiafagaaZ09FnRedu
import Derived.Test.YtmbckkcgiafagaaZ06FnRedu
import Derived.Test.YtmbckkcgiafagaaZ02FnRedu
import Derived.Test.YtmbckkcgiafagaaZ03FnRedu
import Derived.Test.YtmbckkcgiafagaaZ08FnRedu
import Derived.Test.YtmbckkcgiafagaaZ11FnRedu
import Derived.Test.YtmbckkcgiafagaaZ07FnRedu
set_option linter.unusedSimpArgs false
set_option linter.unusedVariables false
set_option maxRecDepth 100000
set_option maxHeartbeats 16000000
namespace Go.Proofs.Ytmbckkcgiafagaa
open Go.RowKit
def GotZ (R C M : Nat) (w : World) (e : Ending) (w' : World) : Prop := ∃ (zs : List Int) (q : Option Addr) (c : Nat) (vs : List Value),e = .returned (.agg #[.int .i64 R,.int .i64 C,.slice q (R * C) c]) ∧ zs.length = R * C ∧ (∀ z ∈ zs,-(M : Int) ≤ z ∧ z ≤ M) ∧ w'.ownsRow w.heap.size 33 1 (.slice q (R * C) c) (R * C) vs ∧ F32s vs (zs.map fun z => cn .f32 (floatOfInt .f32 z)) ∧ Ext w w'
theorem R8Small_any (p : Option Addr) (n c : Nat) (bs : List Nat) (R C M : Nat) (w : World) (hc : Cs w p (u8s bs)) (hl : bs.length = n) (hn : n ≤ 1048576) (hb : ∀ b ∈ bs,b < 256) (hR : R ≤ 16) (hC : C ≤ 16) (hM : M ≤ 1000) :
 Calls Try.prog 11 #[.slice p n c,.int .i64 R,.int .i64 C,.int .i64 M] w (GotZ R C M w) := by
 obtain ⟨W0,hW0⟩ : ∃ W0,W0 = w.alloc (.cells #[.int .i64 0,.int .i64 0,.slice none 0 0] 27) := ⟨_,rfl⟩;have E0 : Ext w W0 := by rw [hW0];exact Ext.alloc _ _
 have b0 : HB W0 w.heap.size #[.int .i64 0,.int .i64 0,.slice none 0 0] 27 := by rw [hW0];exact HB.new _ _ _
 have z0 := b0.lt;go_enter Try.func11,Try.ntmps11;go_wp2_with fail;rw [← hW0];clear hW0;refine (l00From_any p n c bs W0 (hc.ext E0) hl hn hb).mono ?_;rintro e w1 ⟨rfl,src,e1⟩
 have hsz := e1.size;have l5 := src.lt;go_wp2;obtain ⟨W2,hW2⟩ : ∃ W2,W2 = ((w1.alloc (.cells #[] 33)).alloc (.cells #[.int .i64 R,.int .i64 C,.slice (some ⟨w1.heap.size,0,none⟩) 0 0] 27)) := ⟨_,rfl⟩;rw [← hW2];have hz1 : (w1.alloc (.cells #[] 33)).heap.size = w1.heap.size + 1 := by simp
 have E2 : Ext w1 W2 := by rw [hW2];exact (Ext.alloc _ _).trans (Ext.alloc _ _)
 have Z2 : HB W2 (w1.heap.size + 1) #[.int .i64 R,.int .i64 C,.slice (some ⟨w1.heap.size,0,none⟩) 0 0] 27 := by
  rw [hW2,← hz1];exact HB.new _ _ _
 have O2 : W2.ownsRow w1.heap.size 33 1 (.slice (some ⟨w1.heap.size,0,none⟩) 0 0) 0 [] := by
  rw [hW2];exact jaj (World.ownsRow_made w1 #[] 0 (Nat.le_refl _) (by decide) rfl) (Ext.alloc _ _)
 have B2 := (b0.ext e1).ext E2;have S2 := src.ext E2;have X2 := (E0.trans e1).trans E2;clear hW2 b0 src;obtain ⟨hb,hhb⟩ : ∃ hb,hb = w1.heap.size + 1 := ⟨_,rfl⟩;obtain ⟨sb,hsb⟩ : ∃ sb,sb = W0.heap.size := ⟨_,rfl⟩;obtain ⟨B,hB⟩ : ∃ B,B = w1.heap.size := ⟨_,rfl⟩;rw [← hhb,← hsb];rw [← hhb] at Z2;rw [← hsb] at S2;rw [← hB] at O2 Z2;have l1 : w.heap.size < sb := by omega
 have l2 : sb < hb := by omega
 have l3 : w.heap.size < B := by omega
 have l6 : B < hb := by omega
 have l4 : sb < B := by omega
 clear hz1 E2 E0 e1 z0 hsz l5 hhb hsb hc hl;obtain ⟨RC,hRC⟩ : ∃ RC,RC = R * C := ⟨_,rfl⟩;have hRCb : RC ≤ 256 := by rw [hRC];exact Nat.mul_le_mul hR hC
 have hRCi : IntKind.i64.wrap ((R : Int) * (C : Int)) = (RC : Int) := by rw [hRC,← Int.natCast_mul,← hRC];exact jau _ (by omega) (by omega)
 have HRC := hid hRC;clear hRC;go_loopw [11] (fun iv wr => ∃ (i : Nat) (zs : List Int) (vs : List Value) (q : Option Addr) (cq : Nat),i ≤ RC ∧ iv = .int .i64 (i : Int) ∧ HB wr hb #[.int .i64 R,.int .i64 C,.slice q i cq] 27 ∧ wr.ownsRow B 33 1 (.slice q i cq) i vs ∧ Hid (F32s vs (zs.map fun z => cn .f32 (floatOfInt .f32 z))) ∧ Hid (zs.length = i ∧ ∀ z ∈ zs,-(M : Int) ≤ z ∧ z ≤ M) ∧ DrAt wr sb (i * 2) ∧ HB wr w.heap.size #[.int .i64 0,.int .i64 0,.slice none 0 0] 27 ∧ Ext w wr) (fun iv _ => RC - (intOf iv).toNat)
 case atStart => exact ⟨0,[],[],_,_,by omega,rfl,Z2,O2,F32s.nil,hid ⟨rfl,fun x hx => by simp at hx⟩,by simpa using S2,B2,X2⟩
 case round =>
  clear Z2 O2 S2 B2 X2;obtain ⟨i,zs,vs,q,cq,hi,rfl,z1,o1,hf,hz,s1,b1,x1⟩ := hrel
  by_cases hlt : i < RC
  · have hd1 : decide ((i : Int) < (RC : Int)) = true := by simp;omega
    have q2 : IntKind.i64.wrap (2 * (M : Int)) = 2 * (M : Int) := jau _ (by omega) (by omega);have q3 : IntKind.i64.wrap (2 * (M : Int) + 1) = 2 * (M : Int) + 1 := jau _ (by omega) (by omega);have hQ : Hid (HB wr hb #[.int .i64 R,.int .i64 C,.slice q i cq] 27) := hid z1;clear z1;go_wp2_with fail;refine wp_region_T (n := 13) (S := fun W => HB W hb #[.int .i64 R,.int .i64 C,.slice q i cq] 27) (by kernel_rfl) rfl ?_;have z1 := hQ.out.ext (Ext.drew wr);refine hs_take (k := 0) (.pointer (some ⟨hb,2,none⟩)) (by kernel_rfl) rfl rfl (fun _ _ _ h => h) z1 (fun W hW => by go_simp) ?_;simp only [Act.put,jai,pu1,pu2,pu3,pu4,pu5];refine hs_take (k := 1) (.slice q i cq) (by kernel_rfl) rfl rfl (fun _ _ _ h => h) z1 (fun W hW => by have h1 := hW.cell 2 rfl;have h2 := hW.froz 2;go_simp) ?_;simp only [Act.put,jai,pu1,pu2,pu3,pu4,pu5];refine hs_take (k := 2) (.pointer (some ⟨sb,0,none⟩)) (by kernel_rfl) rfl rfl (fun _ _ _ h => h) z1 (fun W hW => by go_simp) ?_;simp only [Act.put,jai,pu1,pu2,pu3,pu4,pu5];refine hs_take (k := 3) (.int .i64 M) (by kernel_rfl) rfl rfl (fun _ _ _ h => h) z1 (fun W hW => by go_simp) ?_;simp only [Act.put,jai,pu1,pu2,pu3,pu4,pu5];refine hs_take (k := 4) (.int .i64 (2 * (M : Int))) (by kernel_rfl) rfl rfl (fun _ _ _ h => h) z1 (fun W hW => by go_simp) ?_;simp only [Act.put,jai,pu1,pu2,pu3,pu4,pu5];refine hs_take (k := 5) (.int .i64 (2 * (M : Int) + 1)) (by kernel_rfl) rfl rfl (fun _ _ _ h => h) z1 (fun W hW => by go_simp) ?_;simp only [Act.put,jai,pu1,pu2,pu3,pu4,pu5];refine hs_take (k := 7) (.int .i64 M) (by kernel_rfl) rfl rfl (fun _ _ _ h => h) z1 (fun W hW => by go_simp) ?_;simp only [Act.put,jai,pu1,pu2,pu3,pu4,pu5];refine hs_only (k := 6) (by kernel_rfl) (wpOp_call (f := 48) (args := #[.pointer (some ⟨sb,0,none⟩),.int .i64 (2 * (M : Int) + 1)]) rfl rfl rfl Try.func48 rfl (by kernel_rfl) (by simp [Act.eval]) (jbe sb (i * 2) (2 * (M : Int) + 1) _ (s1.ext (Ext.drew wr)) (by omega) (by omega)) ?_);rintro e w3 ⟨x,rfl,hx,_,s3,c3⟩
    have z3 := z1.chg c3 (fun h => by have h : hb = sb := h;omega);refine ⟨_,rfl,z3,?_⟩;have hx1 := hx (by omega);have q4 : IntKind.i64.wrap ((x : Int) - (M : Int)) = (x : Int) - (M : Int) := jau _ (by omega) (by omega);simp only [Act.put,jai,pu1,pu2,pu3,pu4,pu5];refine hs_take (k := 8) (.int .i64 ((x : Int) - (M : Int))) (by kernel_rfl) rfl rfl (fun _ _ _ h => h) z3 (fun W hW => by go_simp) ?_;simp only [Act.put,jai,pu1,pu2,pu3,pu4,pu5];refine hs_take (k := 9) (.float .f32 (floatOfInt .f32 ((x : Int) - (M : Int)))) (by kernel_rfl) rfl rfl (fun _ _ _ h => h) z3 (fun W hW => by go_simp) ?_;simp only [Act.put,jai,pu1,pu2,pu3,pu4,pu5];refine hs_only (k := 10) (by kernel_rfl) (wpOp_run (v := .slice (some ⟨w3.heap.size,0,none⟩) 1 1) (w' := w3.alloc (.cells #[.float .f32 (floatOfInt .f32 ((x : Int) - (M : Int)))] 33)) rfl rfl (by go_simp) ?_);have e4 := Ext.alloc w3 (.cells #[.float .f32 (floatOfInt .f32 ((x : Int) - (M : Int)))] 33);have z4 := z3.ext e4;refine ⟨z4,?_⟩;simp only [Act.put,jai,pu1,pu2,pu3,pu4,pu5];have o3 := ja0 (jaj o1 (Ext.drew wr)) c3 (fun k hk hs => by have hs : k = sb := hs;have := jak o1 k hk;omega);have o4 := jaj o3 e4;have c4 : Cs (w3.alloc (.cells #[.float .f32 (floatOfInt .f32 ((x : Int) - (M : Int)))] 33)) (some ⟨w3.heap.size,0,none⟩) [.float .f32 (floatOfInt .f32 ((x : Int) - (M : Int)))] := cs_heap (HB.new w3 _ _);have hsz4 := (c3.size : wr.drew.heap.size ≤ w3.heap.size);refine hs_only (k := 11) (by kernel_rfl) ?_;have hB4 : B ≤ (w3.alloc (.cells #[.float .f32 (floatOfInt .f32 ((x : Int) - (M : Int)))] 33)).heap.size := by have := z4.lt;omega
    refine wpOp_ap (B := B) (t := 25) (e := 33) (s := 1) (v := .slice q i cq) (n := i) (m := 1) (c := 1) (q := ⟨w3.heap.size,0,none⟩) (x1 := .tmp 26) (x2 := .tmp 35) rfl rfl rfl (by simp [Act.eval]) (by simp [Act.eval]) o4 c4 rfl (by simp [Value.oneCell']) (by unfold maxLen;omega) (by omega) hB4 ?_;intro v5 w5 o5 g5;obtain ⟨q5,k5,rfl⟩ := own_valZ o5;have g5' := Chg.of_grown g5;have z5 := z4.chg g5' (fun h => own_neHB o4 z4 (by decide) hb h.symm rfl);refine ⟨z5,?_⟩;simp only [Act.put,jai,pu1,pu2,pu3,pu4,pu5];refine hs_take (k := 12) (.pointer (some ⟨hb,2,none⟩)) (by kernel_rfl) rfl rfl (fun _ _ _ h => h) z5 (fun W hW => by go_simp) ?_;simp only [Act.put,jai,pu1,pu2,pu3,pu4,pu5];refine hs_last (k := 13) (by kernel_rfl) rfl ?_;have f5 := z5.froz 2;have y5 := z5.cell 2 rfl;go_wp2;have x5 := Ext.grown ((chg_new (x1.trans (Ext.drew wr)) c3 (by omega)).trans e4) g5 (fun k hk => by have := jak o4 k hk;omega);have x6 := chg_new x5 (jaw w5 hb 2 (.slice q5 (i + 1) k5)) (by omega);have b5 := (((b1.ext (Ext.drew wr)).chg c3 (fun h => by have h : w.heap.size = sb := h;omega)).ext e4).chg g5' (fun h => by have := jak o4 _ h.symm;omega);have b6 := b5.chg (jaw w5 hb 2 (.slice q5 (i + 1) k5)) (fun h => by have h : w.heap.size = hb := h;omega);have o6 := ja0 o5 (jaw w5 hb 2 (.slice q5 (i + 1) k5)) (fun k hk hs => own_neHB o5 z5 (by decide) k hk hs);have z6 := z5.set 2 (.slice q5 (i + 1) k5);have s5 := (s3.ext e4).chg g5' (fun b hb' => by have := jak o4 _ hb'.symm;omega);have s6 := s5.chg (jaw w5 hb 2 (.slice q5 (i + 1) k5)) (fun b hb' => by have hb' : b = hb := hb';omega)
    refine ⟨⟨i + 1,zs ++ [(x : Int) - (M : Int)],vs ++ [.float .f32 (floatOfInt .f32 ((x : Int) - (M : Int)))],q5,k5,by omega,by simp,z6,o6,hid (by rw [List.map_append];exact hf.out.snoc1 _),hid ⟨by rw [List.length_append,hz.out.1];rfl,fun z hz' => by
     rcases List.mem_append.1 hz' with h | h
     · exact hz.out.2 z h
     · simp at h;omega⟩,s6.mono (by omega),b6,x6⟩,by simp [intOf];omega⟩
  · obtain rfl : i = RC := by omega
    have y0 := z1.cell 0 rfl;have y1 := z1.cell 1 rfl;have y2 := z1.cell 2 rfl;have c0 := b1.cell 0 rfl;have c1 := b1.cell 1 rfl;have c2 := b1.cell 2 rfl;have f0 := z1.froz 0;have f1 := z1.froz 1;have f2 := z1.froz 2;have n0 := b1.froz 0;have n1 := b1.froz 1;have n2 := b1.froz 2;go_wp2;have Z7 : HB (((wr.setCell ⟨w.heap.size,0,none⟩ (.int .i64 R)).setCell ⟨w.heap.size,1,none⟩ (.int .i64 C)).setCell ⟨w.heap.size,2,none⟩ (.slice q i cq)) w.heap.size #[.int .i64 R,.int .i64 C,.slice q i cq] 27 := ((b1.set 0 _).set 1 _).set 2 _;have C7 : Chg (fun b => b = w.heap.size) wr (((wr.setCell ⟨w.heap.size,0,none⟩ (.int .i64 R)).setCell ⟨w.heap.size,1,none⟩ (.int .i64 C)).setCell ⟨w.heap.size,2,none⟩ (.slice q i cq)) := ((jaw _ _ 0 _).trans (jaw _ _ 1 _)).trans (jaw _ _ 2 _);clear y0 y1 y2 c0 c1 c2 f0 f1 f2 n0 n1 n2;generalize (((wr.setCell ⟨w.heap.size,0,none⟩ (.int .i64 R)).setCell ⟨w.heap.size,1,none⟩ (.int .i64 C)).setCell ⟨w.heap.size,2,none⟩ (.slice q i cq)) = W7 at *;have y0 := Z7.cell 0 rfl;have y1 := Z7.cell 1 rfl;have y2 := Z7.cell 2 rfl;refine bodyPost_ret (v := .agg #[.int .i64 R,.int .i64 C,.slice q i cq]) (by simp [results,Try.results11,go_sem,y0,y1,y2]) rfl ?_;have o7 := ja6 (B' := w.heap.size) (ja0 o1 C7 (fun k hk hs => by have hs : k = w.heap.size := hs;have := jak o1 k hk;omega)) (by omega);have x7 := chg_new x1 C7 (Nat.le_refl _);have h1 := hz.out.1;have h2 := hz.out.2;have h3 := hf.out;have h9 := HRC.out;subst h9;exact ⟨zs,q,cq,vs,rfl,h1,h2,o7,h3,x7⟩
end Go.Proofs.Ytmbckkcgiafagaa
namespace Go.Proofs.Ytmbckkcgiafagaa
namespace Ex
open Go.RowKit Ieee
theorem near_dec {n : Int} (hn : n.natAbs < 2 ^ 24) : ∃ m i,Ieee.single.read (FloatKind.f32.nearest n) = .number (decide (n < 0)) m i ∧ -149 ≤ i ∧ i ≤ 0 ∧ vm m i = n.natAbs * U := by
 have h5 : 2 ^ (Ieee.single).exponentBits = 256 := by decide
 have hlp : (Ieee.single).leastPlace = -149 := by decide
 obtain ⟨k',p',g1,g2,g3,g4,g5⟩ := write_rep Ieee.single (decide (n < 0)) (k := n.natAbs) (m := n.natAbs) (p := 0) (e := 0) (by omega) (by decide) (by omega) hn rfl (by rw [hlp,h5];decide);exact ⟨k',p',g1,by omega,g5,by rw [g3,vm_int]⟩
theorem near_shift {s : Bool} {m d : Nat} (hm : m < 2 ^ 24) : Ieee.single.nearest s (m * 2 ^ d) (-(d : Int)) = Ieee.single.nearest s m 0 := by
 by_cases h0 : m = 0
 · subst h0
   rw [Nat.zero_mul];unfold Format.nearest;rw [if_pos rfl,if_pos rfl]
 · have hp := Nat.two_pow_pos d
   have hne : m * 2 ^ d ≠ 0 := Nat.mul_ne_zero h0 (by omega);have hlg : m.log2 < 24 := (Nat.log2_lt h0).2 hm;have hf : (Ieee.single).fractionBits = 23 := by decide
   have hlp : (Ieee.single).leastPlace = -149 := by decide
   unfold Format.nearest;rw [if_neg h0,if_neg hne];simp only [log2_mul h0,hf,hlp];obtain ⟨last,hlast⟩ : ∃ last : Int,last = max ((0 : Int) + m.log2 - (23 : Nat)) (-149) := ⟨_,rfl⟩;have hl2 : max (-(d : Int) + ((m.log2 + d : Nat) : Int) - (23 : Nat)) (-149) = last := by rw [hlast];congr 1;omega
   have hle : last ≤ 0 := by rw [hlast];omega
   rw [hl2,← hlast]
   have e1 : Toward.even.cut s (m <<< ((0 : Int) - last).toNat) (last - 0).toNat = m * 2 ^ ((0 : Int) - last).toNat := by
    refine cut_exact s _ _ _ ?_ (Nat.mul_ne_zero h0 (by have := Nat.two_pow_pos ((0 : Int) - last).toNat;omega));rw [Nat.shiftLeft_eq,show (last - 0).toNat = 0 by omega];simp
   have e2 : Toward.even.cut s ((m * 2 ^ d) <<< (-(d : Int) - last).toNat) (last - -(d : Int)).toNat = m * 2 ^ ((0 : Int) - last).toNat := by
    refine cut_exact s _ _ _ ?_ (Nat.mul_ne_zero h0 (by have := Nat.two_pow_pos ((0 : Int) - last).toNat;omega));rw [Nat.shiftLeft_eq,Nat.mul_assoc,Nat.mul_assoc,← Nat.pow_add,← Nat.pow_add]
    congr 2
    omega
   rw [e1,e2]
theorem vs_signed (s : Bool) (m : Nat) {i b : Int} (hb : -1074 ≤ b) (h : b ≤ i) : signed s m (i - b).toNat * (2 ^ (b + 1074).toNat : Nat) = vs s m i := by
 unfold signed vs;rw [vm_shift hb h,Nat.shiftLeft_eq]
 cases s
 · simp
 · simp [Int.neg_mul]
theorem vs_near {n : Int} {m : Nat} {i : Int} (h : vm m i = n.natAbs * U) : vs (decide (n < 0)) m i = n * U := by
 unfold vs;rw [h];rcases Int.lt_or_le n 0 with h | h
 · rw [decide_eq_true h,if_pos rfl]
   rw [show n = -(n.natAbs : Int) by omega,Int.neg_mul];simp
 · rw [decide_eq_false (by omega),if_neg (by simp)]
   rw [show n = (n.natAbs : Int) by omega];simp
theorem fop_near {x y : Int} (hx : x.natAbs < 2 ^ 23) (hy : y.natAbs < 2 ^ 23) : fop .add .f32 (FloatKind.f32.nearest x) (FloatKind.f32.nearest y) = FloatKind.f32.nearest (x + y) := by
 obtain ⟨m,i,h1,h2,h3,h4⟩ := near_dec (n := x) (by omega);obtain ⟨n,j,g1,g2,g3,g4⟩ := near_dec (n := y) (by omega);have hb : -149 ≤ min i j := by omega
 obtain ⟨b,hbe⟩ : ∃ b,b = min i j := ⟨_,rfl⟩;obtain ⟨t,ht⟩ : ∃ t,t = signed (decide (x < 0)) m (i - b).toNat + signed (decide (y < 0)) n (j - b).toNat := ⟨_,rfl⟩
 have hv : t * (2 ^ (b + 1074).toNat : Nat) = (x + y) * U := by
  rw [ht,Int.add_mul,vs_signed _ _ (by omega) (by omega),vs_signed _ _ (by omega) (by omega),vs_near h4,vs_near g4,Int.add_mul]
 obtain ⟨d,hd⟩ : ∃ d : Nat,b = -(d : Int) := ⟨(-b).toNat,by omega⟩
 have hU : U = 2 ^ d * 2 ^ (b + 1074).toNat := by
  unfold U;rw [← Nat.pow_add,show d + (b + 1074).toNat = ((0 : Int) + 1074).toNat by omega]
 have hpos : 0 < 2 ^ (b + 1074).toNat := Nat.two_pow_pos _
 have ht2 : t = (x + y) * (2 ^ d : Nat) := by
  rw [hU,Int.natCast_mul,← Int.mul_assoc] at hv;exact Int.eq_of_mul_eq_mul_right (by omega) hv
 have hsum : (Ieee.single.read (FloatKind.f32.nearest x)).sum (Ieee.single.read (FloatKind.f32.nearest y)) = some (.number (if t = 0 then decide (x < 0) && decide (y < 0) else decide (t < 0)) t.natAbs b) := by
  rw [h1,g1];simp only [Datum.sum,← hbe,← ht]
 have hp := Nat.two_pow_pos d
 have hs : (if t = 0 then decide (x < 0) && decide (y < 0) else decide (t < 0)) = decide (x + y < 0) := by
  by_cases h0 : t = 0
  · rw [if_pos h0]
    have : x + y = 0 := by
     rw [h0] at ht2;rcases Int.mul_eq_zero.1 ht2.symm with h | h
     · exact h
     · omega
    by_cases hx0 : x < 0
    · rw [decide_eq_true hx0,decide_eq_false (show ¬ y < 0 by omega),decide_eq_false (show ¬ x + y < 0 by omega)];rfl
    · rw [decide_eq_false hx0,decide_eq_false (show ¬ x + y < 0 by omega)];rfl
  · rw [if_neg h0]
    congr 1
    refine propext ⟨fun h => ?_,fun h => ?_⟩
    · rw [ht2] at h
      refine Classical.byContradiction fun hc => ?_
      have := Int.mul_nonneg (a := x + y) (b := ((2 ^ d : Nat) : Int)) (by omega) (by omega);omega
    · rw [ht2]
      exact Int.mul_neg_of_neg_of_pos h (by omega)
 have ha : t.natAbs = (x + y).natAbs * 2 ^ d := by rw [ht2,Int.natAbs_mul];rfl
 show (((Ieee.single.read (FloatKind.f32.nearest x)).sum (Ieee.single.read (FloatKind.f32.nearest y))).map Ieee.single.write).getD _ = _;rw [hsum,hs,ha,hd];show Ieee.single.nearest (decide (x + y < 0)) ((x + y).natAbs * 2 ^ d) (-(d : Int)) = Ieee.single.nearest (decide (x + y < 0)) (x + y).natAbs 0;exact near_shift (by omega)
end Ex
open Go.RowKit
def SZ (h : Nat → Int) : Nat → Int
 | 0 => 0
 | n + 1 => SZ h n + h n
theorem SZ_split (h : Nat → Int) (a : Nat) : ∀ b,SZ h (a + b) = SZ h a + SZ (fun t => h (a + t)) b
 | 0 => by simp [SZ]
 | b + 1 => by
   show SZ h (a + b) + h (a + b) = SZ h a + (SZ (fun t => h (a + t)) b + h (a + b));rw [SZ_split h a b];omega
theorem SZ_congr {h g : Nat → Int} : ∀ n,(∀ i,i < n → h i = g i) → SZ h n = SZ g n
 | 0,_ => rfl
 | n + 1,k => by
   show SZ h n + h n = SZ g n + g n;rw [SZ_congr n fun i hi => k i (by omega),k n (by omega)]
theorem SZ_bd {h : Nat → Int} {M : Nat} : ∀ n,(∀ i,i < n → (h i).natAbs ≤ M) → (SZ h n).natAbs ≤ n * M
 | 0,_ => by simp [SZ]
 | n + 1,k => by
   have h1 := SZ_bd n fun i hi => k i (by omega)
   have h2 := k n (by omega);show (SZ h n + h n).natAbs ≤ (n + 1) * M;rw [Nat.add_mul];omega
theorem SZ_rot (h : Nat → Int) {f L : Nat} (hf : f < L) : SZ (fun t => h ((f + t) % L)) L = SZ h L := by
 obtain ⟨b,rfl⟩ : ∃ b,L = f + b := ⟨L - f,by omega⟩;have e1 := SZ_split (fun t => h ((f + t) % (f + b))) b f;rw [show b + f = f + b by omega] at e1;rw [e1,SZ_split h f b]
 have e2 : SZ (fun t => h ((f + t) % (f + b))) b = SZ (fun t => h (f + t)) b := SZ_congr b fun i hi => by
  rw [Nat.mod_eq_of_lt (by omega)]
 have e3 : SZ (fun t => h ((f + (b + t)) % (f + b))) f = SZ h f := SZ_congr f fun i hi => by
  rw [show f + (b + i) = i + (f + b) by omega,Nat.add_mod_right,Nat.mod_eq_of_lt (by omega)]
 rw [e2,e3];omega
theorem SZ_two (h : Nat → Int) : ∀ k,SZ (fun i => h (2 * i) + h (2 * i + 1)) k = SZ h (2 * k)
 | 0 => rfl
 | k + 1 => by
   show SZ (fun i => h (2 * i) + h (2 * i + 1)) k + (h (2 * k) + h (2 * k + 1)) = SZ h (2 * k + 1) + h (2 * k + 1);rw [SZ_two h k];show _ = SZ h (2 * k) + h (2 * k) + h (2 * k + 1);omega
def prZ (h : Nat → Int) (L i : Nat) : Int := if 2 * i + 1 < L then h (2 * i) + h (2 * i + 1) else h (2 * i)
theorem SZ_pair (h : Nat → Int) (L : Nat) : SZ (prZ h L) ((L + 1) / 2) = SZ h L := by
 rcases Nat.mod_two_eq_zero_or_one L with h2 | h2
 · obtain ⟨k,rfl⟩ : ∃ k,L = 2 * k := ⟨L / 2,by omega⟩
   rw [show (2 * k + 1) / 2 = k by omega,← SZ_two];exact SZ_congr k fun i hi => by unfold prZ;rw [if_pos (by omega)]
 · obtain ⟨k,rfl⟩ : ∃ k,L = 2 * k + 1 := ⟨L / 2,by omega⟩
   rw [show (2 * k + 1 + 1) / 2 = k + 1 by omega];show SZ (prZ h (2 * k + 1)) k + prZ h (2 * k + 1) k = SZ h (2 * k) + h (2 * k);rw [← SZ_two,SZ_congr (g := fun i => h (2 * i) + h (2 * i + 1)) k fun i hi => by unfold prZ;rw [if_pos (by omega)]]
   congr 1
   unfold prZ;rw [if_neg (by omega)]
def gz (z : Int) : Nat := FloatKind.f32.nearest z
def GZ (l : List (List Nat)) (Z : Nat → Nat → Int) (N : Nat) : Prop := ∀ i,i < l.length → ∀ j,j < N → (l.getD i []).getD j 0 = gz (Z i j)
theorem sumK_gz {l : List (List Nat)} {Z : Nat → Nat → Int} {N M f j : Nat} (h : GZ l Z N) (hM : ∀ i,i < l.length → (Z i j).natAbs ≤ M) (hb : l.length * M < 2 ^ 23) (hf : f < l.length) (hj : j < N) :
 ∀ n,n < l.length → sumK l f j n = gz (SZ (fun t => Z ((f + t) % l.length) j) (n + 1))
 | 0,_ => by
   show (l.getD f []).getD j 0 = gz (0 + Z ((f + 0) % l.length) j);rw [h f hf j hj,Int.zero_add,Nat.add_zero,Nat.mod_eq_of_lt hf]
 | n + 1,hn => by
   have ih := sumK_gz h hM hb hf hj n (by omega);have hm : (f + n + 1) % l.length < l.length := Nat.mod_lt _ (by omega);show fop .add .f32 (sumK l f j n) ((l.getD ((f + n + 1) % l.length) []).getD j 0) = gz (SZ (fun t => Z ((f + t) % l.length) j) (n + 1) + Z ((f + (n + 1)) % l.length) j);rw [ih,h _ hm j hj];have hbd := SZ_bd (h := fun t => Z ((f + t) % l.length) j) (M := M) (n + 1) fun i _ => hM _ (Nat.mod_lt _ (by omega))
   have h1 : (n + 1) * M ≤ l.length * M := Nat.mul_le_mul_right _ (by omega);have h2 : M ≤ l.length * M := Nat.le_mul_of_pos_left _ (by omega);exact Ex.fop_near (by omega) (by have := hM _ hm;omega)
theorem treeF_gz : ∀ (e : Nat) {l : List (List Nat)} {Z : Nat → Nat → Int} {N M j : Nat},l.length ≤ 2 ^ e → 1 ≤ l.length → EvenL l N → GZ l Z N → j < N → (∀ i,i < l.length → ∀ j,j < N → (Z i j).natAbs ≤ M) → M * 2 ^ e < 2 ^ 23 → (treeF l).getD j 0 = gz (SZ (fun i => Z i j) l.length) := by
 intro e
 induction e with
 | zero =>
   intro l Z N M j hl h1 hE h hj hM hb;have hl1 : l.length = 1 := by omega
   rw [treeF_one (by omega),h 0 (by omega) j hj,hl1];show _ = gz (0 + Z 0 j);rw [Int.zero_add]
 | succ e ih =>
   intro l Z N M j hl h1 hE h hj hM hb;have hp : 2 ^ (e + 1) = 2 * 2 ^ e := by rw [Nat.pow_succ];omega
   have hpos := Nat.two_pow_pos e;rw [hp] at hl hb;have hMb : M ≤ M * (2 * 2 ^ e) := Nat.le_mul_of_pos_right _ (by omega)
   by_cases h2 : l.length ≤ 1
   · have hl1 : l.length = 1 := by omega
     rw [treeF_one h2,h 0 (by omega) j hj,hl1];show _ = gz (0 + Z 0 j);rw [Int.zero_add]
   · have hpl := pairF_len l
     have hE2 : ∀ i,i < l.length → (l.getD i []).length = N := hE;rw [treeF_pair (by omega),ih (Z := fun i j => prZ (fun i => Z i j) l.length i) (N := N) (M := 2 * M) (by omega) (by omega) hE.pair ?_ hj ?_ ?_]
     · rw [hpl,SZ_pair]
     · intro i hi k hk
       rw [hpl] at hi;unfold pairF;rw [ltab_get _ hi];unfold prF;show _ = gz (prZ (fun i => Z i k) l.length i);unfold prZ
       by_cases hc : 2 * i + 1 < l.length
       · rw [if_pos hc,if_pos hc]
         unfold addF;rw [jba _ (by rw [hE2 _ (by omega)];exact hk),h (2 * i) (by omega) k hk,h (2 * i + 1) hc k hk];have a1 := hM (2 * i) (by omega) k hk;have a2 := hM (2 * i + 1) hc k hk;exact Ex.fop_near (by omega) (by omega)
       · rw [if_neg hc,if_neg hc]
         exact h _ (by omega) k hk
     · intro i hi k hk
       rw [hpl] at hi;show (prZ (fun i => Z i k) l.length i).natAbs ≤ 2 * M;unfold prZ;have a1 := hM (2 * i) (by omega) k hk
       split
       · rename_i hc
         have a2 := hM (2 * i + 1) hc k hk;show (Z (2 * i) k + Z (2 * i + 1) k).natAbs ≤ 2 * M;omega
       · show (Z (2 * i) k).natAbs ≤ 2 * M
         omega
     · rw [show 2 * M * 2 ^ e = M * (2 * 2 ^ e) by ac_rfl];exact hb
theorem redF_gz {k : Int} {l : List (List Nat)} {Z : Nat → Nat → Int} {N M j : Nat} (hl : l.length ≤ 8) (h1 : 1 ≤ l.length) (hE : EvenL l N) (h : GZ l Z N) (hj : j < N) (hM : ∀ i,i < l.length → ∀ j,j < N → (Z i j).natAbs ≤ M) (hb : M * 8 < 2 ^ 23) : (redF k l).getD j 0 = gz (SZ (fun i => Z i j) l.length) := by
 unfold redF
 split
 · exact treeF_gz 3 hl h1 hE h hj hM hb
 · unfold ringF
   rw [jba _ (by rw [hE 0 (by omega)];exact hj)]
   have hf : fstR k l.length j < l.length := by
    unfold fstR
    split
    · exact Nat.mod_lt _ (by omega)
    · omega
   have hm : l.length * M ≤ M * 8 := by rw [Nat.mul_comm];exact Nat.mul_le_mul_left _ hl
   rw [sumK_gz h (fun i hi => hM i hi j hj) (by omega) hf hj (l.length - 1) (by omega),show l.length - 1 + 1 = l.length by omega,SZ_rot (fun i => Z i j) hf]
theorem sum_comm (x y : Ieee.Datum) : x.sum y = y.sum x := by
 cases x <;> cases y <;> simp only [Ieee.Datum.sum]
 · rename_i s m i t n j
   rw [Int.min_comm i j,Int.add_comm,Bool.and_comm]
 · rename_i s t
   by_cases h : s = t
   · subst h;rfl
   · rw [if_neg h,if_neg (Ne.symm h)]
theorem fop_comm (x y : Nat) : fop .add .f32 x y = fop .add .f32 y x := by
 unfold fop;show (((FloatKind.f32.format.read x).sum (FloatKind.f32.format.read y)).map _).getD _ = (((FloatKind.f32.format.read y).sum (FloatKind.f32.format.read x)).map _).getD _;rw [sum_comm]
theorem redF_two {k : Int} {l : List (List Nat)} {N : Nat} (hl : l.length ≤ 2) (h1 : 1 ≤ l.length) (hE : EvenL l N) : redF k l = redF 0 l := by
 have hlen := fun k => hE.red h1 k
 apply List.ext_getElem?;intro j;rcases Nat.lt_or_ge j N with hj | hj
 · have key : ∀ k,(redF k l).getD j 0 = (redF 0 l).getD j 0 → (redF k l)[j]? = (redF 0 l)[j]? := by
    intro k hk;have a := hlen k;have b := hlen 0;rw [List.getElem?_eq_getElem (by omega),List.getElem?_eq_getElem (by omega)];rw [List.getD_eq_getElem?_getD,List.getD_eq_getElem?_getD,List.getElem?_eq_getElem (by omega),List.getElem?_eq_getElem (by omega)] at hk;exact congrArg some hk
   apply key;have hE0 := hE 0 (by omega)
   have h0 : (redF 0 l).getD j 0 = sumK l 0 j (l.length - 1) := by
    unfold redF ringF;rw [if_neg (by decide),jba _ (by omega)];rfl
   rw [h0];rcases (show l.length = 1 ∨ l.length = 2 by omega) with h | h
   · unfold redF ringF
     split
     · rw [treeF_one (by omega),h];rfl
     · rw [jba _ (by omega),h]
       show (l.getD (fstR k 1 j) []).getD j 0 = (l.getD 0 []).getD j 0;rw [show fstR k 1 j = 0 by unfold fstR;split <;> omega]
   · have e1 : sumK l 0 j (l.length - 1) = fop .add .f32 ((l.getD 0 []).getD j 0) ((l.getD 1 []).getD j 0) := by
      rw [h];show fop .add .f32 ((l.getD 0 []).getD j 0) ((l.getD ((0 + 0 + 1) % l.length) []).getD j 0) = _;rw [h]
     rw [e1];unfold redF ringF
     split
     · rw [treeF_pair (by omega),treeF_one (by rw [pairF_len];omega)]
       unfold pairF;rw [ltab_get _ (by omega)];unfold prF;rw [if_pos (by omega)];unfold addF;rw [jba _ (by rw [hE 0 (by omega)];exact hj)]
     · rw [jba _ (by omega),h]
       rcases (show fstR k 2 j = 0 ∨ fstR k 2 j = 1 by unfold fstR;split <;> omega) with hf | hf
       · rw [hf]
         show fop .add .f32 ((l.getD 0 []).getD j 0) ((l.getD ((0 + 0 + 1) % l.length) []).getD j 0) = _;rw [h]
       · rw [hf]
         show fop .add .f32 ((l.getD 1 []).getD j 0) ((l.getD ((1 + 0 + 1) % l.length) []).getD j 0) = _;rw [h,fop_comm]
 · rw [List.getElem?_eq_none (by rw [hlen k];exact hj),List.getElem?_eq_none (by rw [hlen 0];exact hj)]
theorem gz_of {b : Nat} {x : Int} (h : cn .f32 b = gz x) : b = gz x := by
 cases hb : (FloatKind.f32.decode b).isNaN with
 | false => rw [jbc hb] at h;exact h
 | true =>
   have h1 := isNaN_cn .f32 b;rw [h,hb] at h1;have h2 := nearest_not .f32 x;unfold gz at h1;rw [h2] at h1;cases h1
theorem gz_int {x : Int} (hx : x.natAbs < 2 ^ 23) : floatToIntVal .f32 (gz x) .i64 = some x := by
 obtain ⟨m,i,h1,h2,h3,h4⟩ := Ex.near_dec (n := x) (by omega)
 have h5 : ((FloatKind.f32.decode (gz x)).toInt .zero) = some x := by
  show (Ieee.single.read (FloatKind.f32.nearest x)).toInt .zero = some x;rw [h1];unfold Ieee.Datum.toInt;rw [Ex.integral_zero _ _ (by omega),h4,Nat.mul_div_cancel _ Ex.U_pos];show some (Ieee.signed (decide (x < 0)) x.natAbs 0) = some x;unfold Ieee.signed
  congr 1
  by_cases h : x < 0
  · rw [decide_eq_true h,if_pos rfl];simp;omega
  · rw [decide_eq_false h,if_neg (by simp)];simp;omega
 unfold floatToIntVal;rw [h5];simp only;rw [if_pos ⟨by show (-9223372036854775808 : Int) ≤ x;omega,by show x ≤ (9223372036854775807 : Int);omega⟩]
end Go.Proofs.Ytmbckkcgiafagaa
namespace Go.Proofs.Ytmbckkcgiafagaa
open Go.RowKit
theorem rowQ_get {xs : List Nat} {c i j r : Nat} (h : xs.length = r * c) (hi : i < r) (hj : j < c) : (rowT xs c i).getD j 0 = xs.getD (i * c + j) 0 := by
 have h1 : (i + 1) * c = i * c + c := Nat.succ_mul i c;have h2 : (i + 1) * c ≤ r * c := Nat.mul_le_mul_right c hi;unfold rowT;rw [List.getD_eq_getElem?_getD,List.getElem?_drop,List.getElem?_take_of_lt (by omega),← List.getD_eq_getElem?_getD]
theorem gz_cn (z : Int) : cn .f32 (floatOfInt .f32 z) = gz z := jbc (nearest_not .f32 z)
theorem gz_rows {zs : List Int} {n m : Nat} (h : zs.length = n * m) : GZ (ltab n (rowT (zs.map fun z => cn .f32 (floatOfInt .f32 z)) m)) (fun t j => zs.getD (t * m + j) 0) m := by
 intro t ht j hj;rw [ltab_len] at ht;rw [ltab_get _ ht,rowQ_get (r := n) (by simpa using h) ht hj];have h1 : (t + 1) * m = t * m + m := Nat.succ_mul t m;have h2 : (t + 1) * m ≤ n * m := Nat.mul_le_mul_right m ht;have hlt : t * m + j < zs.length := by omega
 rw [List.getD_eq_getElem?_getD,List.getElem?_map,List.getElem?_eq_getElem hlt];show cn .f32 (floatOfInt .f32 zs[t * m + j]) = gz (zs.getD (t * m + j) 0);rw [gz_cn,List.getD_eq_getElem?_getD,List.getElem?_eq_getElem hlt];rfl
theorem gz_bd {zs : List Int} {n m : Nat} (h : zs.length = n * m) (hb : ∀ z ∈ zs,-(100 : Int) ≤ z ∧ z ≤ 100) {t j : Nat} (ht : t < n) (hj : j < m) : (zs.getD (t * m + j) 0).natAbs ≤ 100 := by
 have h1 : (t + 1) * m = t * m + m := Nat.succ_mul t m;have h2 : (t + 1) * m ≤ n * m := Nat.mul_le_mul_right m ht;have hlt : t * m + j < zs.length := by omega
 rw [List.getD_eq_getElem?_getD,List.getElem?_eq_getElem hlt];have := hb _ (List.getElem_mem hlt);show (zs[t * m + j]).natAbs ≤ 100;omega
theorem gz_order (z : Int) : (FloatKind.f32.format.order (gz z) (gz z) != some .eq) = false := by
 have h := order_self (k := .f32) (x := gz z) (nearest_not .f32 z);rw [h];rfl
theorem cn_gz (z : Int) : cn .f32 (gz z) = gz z := jbc (nearest_not .f32 z)
theorem sumK_lt {D : List (List Nat)} (h : ∀ r ∈ D,∀ x ∈ r,x < 4294967296) (f j : Nat) : ∀ t,sumK D f j t < 4294967296 := by
 have key : ∀ i,((D.getD i []).getD j 0) < 4294967296 := by
  intro i;rw [List.getD_eq_getElem?_getD (l := D)];rcases Nat.lt_or_ge i D.length with hi | hi
  · rw [List.getElem?_eq_getElem hi]
    show (D[i].getD j 0) < _;rw [List.getD_eq_getElem?_getD];rcases Nat.lt_or_ge j D[i].length with hj | hj
    · rw [List.getElem?_eq_getElem hj];exact h _ (List.getElem_mem hi) _ (List.getElem_mem hj)
    · rw [List.getElem?_eq_none hj];decide
  · rw [List.getElem?_eq_none hi]
    show (([] : List Nat).getD j 0) < _;simp
 intro t
 cases t with
 | zero => exact key f
 | succ t => exact fop_lt _ _ _
theorem red0_get {D : List (List Nat)} {N j n : Nat} (hl : D.length = n) (h1 : 1 ≤ n) (hE : EvenL D N) (hj : j < N) : (redF 0 D).getD j 0 = sumK D 0 j (n - 1) := by
 unfold redF ringF;rw [if_neg (by decide),jba _ (by rw [hE 0 (by omega)];exact hj),hl];rfl
theorem red2_get {D : List (List Nat)} {N j n : Nat} (hl : D.length = n) (h1 : 1 ≤ n) (hE : EvenL D N) (hj : j < N) : (redF 2 D).getD j 0 = sumK D (j % n) j (n - 1) := by
 unfold redF ringF;rw [if_neg (by decide),jba _ (by rw [hE 0 (by omega)];exact hj),hl];rfl
theorem red0_lt {D : List (List Nat)} (h : ∀ r ∈ D,∀ x ∈ r,x < 4294967296) : ∀ x ∈ redF 0 D,x < 4294967296 := by
 intro x hx;unfold redF ringF at hx;rw [if_neg (by decide)] at hx;unfold tab at hx;obtain ⟨j,_,rfl⟩ := List.mem_map.1 hx;exact sumK_lt h _ _ _
abbrev jar : Sh := .pr .int (.pr (.sl .flt) (.un))
def atR (l : List jar.T) (i : Nat) : Int := (l[i]?.map fun d => d.1).getD 0
def rowR (l : List jar.T) (i : Nat) : List Nat := (l[i]?.map fun d => d.2.1).getD []
structure ReqOk (I : Int) (l : List jar.T) : Prop where
 lo : ∀ i,i < l.length → 0 ≤ atR l i ∧ atR l i ≤ 100000
 len : ∀ i,i < l.length → ((rowR l i).length : Int) = I
 mono : ∀ i,i + 1 < l.length → atR l i ≤ atR l (i + 1)
theorem ReqOk.le {I : Int} {l : List jar.T} (h : ReqOk I l) {i : Nat} : ∀ k,i + k < l.length → atR l i ≤ atR l (i + k)
 | 0,_ => Int.le_refl _
 | k + 1,hk => Int.le_trans (h.le k (by omega)) (h.mono (i + k) hk)
structure Reqs (w : World) (p : Option Addr) (n : Nat) (css : List (List Value)) (l : List jar.T) : Prop where
 cs : Cs w p css.flatten
 all : All2 (Rep w jar) css l
 size : ∀ c ∈ css,c.length = jar.sz
 len : l.length = n
 cnt : css.length = n
 le : n ≤ maxLen
theorem Reqs.ext {w w' : World} {p : Option Addr} {n : Nat} {css : List (List Value)} {l : List jar.T} (h : Reqs w p n css l) (e : Ext w w') : Reqs w' p n css l :=
 ⟨h.cs.ext e,h.all.imp fun _ _ => Rep.ext e,h.size,h.len,h.cnt,h.le⟩
theorem r8Same_any (p q : Option Addr) (n c d : Nat) (us vs : List Value) (xs : List Nat) (w : World) (hx : xs.length = n) (hn : n ≤ 1048576) (hp : Cs w p us) (hf : F32s us xs) (hq : Cs w q vs) (hg : F32s vs xs) (hb : ∀ x ∈ xs,x < 4294967296) :
 Calls Try.prog 15 #[.slice p n c,.slice q n d] w fun e w' => e = .returned (.bool true) ∧ Ext w w' := by
 have HU := hid (hf.1.trans hx);have HV := hid (hg.1.trans hx);have hnn := bne_f (rfl : (n : Int) = (n : Int));go_enter Try.func15,Try.ntmps15;go_wp2;go_loopw [5] (fun iv wr => ∃ i : Nat,i ≤ n ∧ iv = .int .i64 i ∧ Ext w wr) (fun iv _ => n - (intOf iv).toNat)
 case atStart => exact ⟨0,by omega,rfl,Ext.refl _⟩
 case round =>
  obtain ⟨i,hi,rfl,he⟩ := hrel
  by_cases hlt : i < n
  · have hix : i < xs.length := by omega
    obtain ⟨r1,hr1,g1⟩ := hf.get hix;obtain ⟨r2,hr2,g2⟩ := hg.get hix;have hbx : xs.getD i 0 < 4294967296 := hb _ (by rw [show xs.getD i 0 = xs[i] by simp [hix]];exact List.getElem_mem hix);have C := hid (fun W => SameNumber_any r1 r2 W (by rw [g1];exact hbx) (by rw [g2];exact hbx));rw [g1,g2,decide_eq_true rfl] at C;have R1 := hid hr1;have R2 := hid hr2;clear hr1 hr2 g1 g2 hbx;have k1 := (hp.ext he).ext (Ext.drew wr);have k2 := (hq.ext he).ext (Ext.drew wr);go_wp2_with fail;refine jab (F := fun _ _ u => u = .bool true) (by kernel_rfl) (by kernel_rfl) (by kernel_rfl) ?_;intro wf hwf
    repeat (first
     | ((first | (refine jav rfl ?_) | (refine x_mv rfl rfl rfl ?_) | (refine x_as rfl rfl rfl ?_) | ((with_reducible show gx1);first | (refine x_idxload rfl rfl (fun _ => rfl) rfl (fun _ => rfl) rfl rfl k1 HU.out (by omega) (by omega) ?_;intro u hu;rw [Int.toNat_natCast,R1.out] at hu;cases hu) | (refine x_idxload rfl rfl (fun _ => rfl) rfl (fun _ => rfl) rfl rfl k2 HV.out (by omega) (by omega) ?_;intro u hu;rw [Int.toNat_natCast,R2.out] at hu;cases hu)) | ((with_reducible show gx12);refine jax (f := 14) (args := #[.float .f32 r1,.float .f32 r2]) rfl rfl Try.func14 rfl (by kernel_rfl) ?_ ?_ ?_;(focus (simp [Act.eval];done));(focus (intro w1 hw1;exact ((C.out w1).mono fun e w3 h => ⟨_,h.1,by rw [h.2];exact Ext.refl _,rfl⟩)));rintro u w3 e3 e4 hu;subst hu));simp only [Act.put,jai,pu1,pu2,pu3,pu4,pu5])
     | (refine x_run rfl fun K hK w1 hw1 => ?_;go_simp;refine hK _ ?_;clear hK K  hw1 w1))
    refine x_nil ?_;have hW := (he.trans (Ext.drew wr)).trans hwf;go_wp2;go_roundw
    case rel => exact ⟨i + 1,by omega,by go_num,hW⟩
    case measure => simp [intOf];omega
  · obtain rfl : n = i := by omega
    go_wp2;go_ret;exact ⟨rfl,he⟩
theorem atR_snoc (l : List jar.T) (d : jar.T) (j : Nat) : atR (l ++ [d]) j = if j < l.length then atR l j else if j = l.length then d.1 else 0 := by
 unfold atR
 by_cases h : j < l.length
 · rw [if_pos h,List.getElem?_append_left h]
 · rw [if_neg h,List.getElem?_append_right (by omega)]
   by_cases h2 : j = l.length
   · subst h2;rw [if_pos rfl,Nat.sub_self];rfl
   · rw [if_neg h2,List.getElem?_eq_none (by simp;omega)];rfl
theorem rowR_snoc (l : List jar.T) (d : jar.T) (j : Nat) : rowR (l ++ [d]) j = if j < l.length then rowR l j else if j = l.length then d.2.1 else [] := by
 unfold rowR
 by_cases h : j < l.length
 · rw [if_pos h,List.getElem?_append_left h]
 · rw [if_neg h,List.getElem?_append_right (by omega)]
   by_cases h2 : j = l.length
   · subst h2;rw [if_pos rfl,Nat.sub_self];rfl
   · rw [if_neg h2,List.getElem?_eq_none (by simp;omega)];rfl
structure ReqG (I : Nat) (l : List jar.T) (a : Int) : Prop where
 lo : ∀ j,j < l.length → 0 ≤ atR l j ∧ atR l j ≤ a
 mono : ∀ i k,i + k < l.length → atR l i ≤ atR l (i + k)
 len : ∀ j,j < l.length → (rowR l j).length = I ∧ ∀ x ∈ rowR l j,x < 4294967296
 a0 : 0 ≤ a ∧ a ≤ 5 * l.length
theorem ReqG.nil (I : Nat) : ReqG I [] 0 := ⟨fun j h => by simp at h,fun i k h => by simp at h,fun j h => by simp at h,by simp⟩
theorem ReqG.snoc {I : Nat} {l : List jar.T} {a b : Int} (h : ReqG I l a) {row : List Nat} (hl : row.length = I) (hr : ∀ x ∈ row,x < 4294967296) (hb : a ≤ b) (hb5 : b ≤ a + 5) : ReqG I (l ++ [(b,row,())]) b := by
 have ha := h.a0;refine ⟨fun j hj => ?_,fun i k hk => ?_,fun j hj => ?_,by rw [List.length_append,List.length_singleton];omega⟩
 · rw [List.length_append,List.length_singleton] at hj
   rw [atR_snoc]
   split
   · rename_i h1;have := h.lo j h1;omega
   · rw [if_pos (by omega)];show 0 ≤ b ∧ b ≤ b;omega
 · rw [List.length_append,List.length_singleton] at hk
   rw [atR_snoc,atR_snoc]
   by_cases h1 : i + k < l.length
   · rw [if_pos (by omega),if_pos h1];exact h.mono i k h1
   · have h2 : i + k = l.length := by omega
     rw [if_neg h1,if_pos h2];show _ ≤ b
     split
     · rename_i h3;have := h.lo i h3;omega
     · rw [if_pos (by omega)];exact Int.le_refl _
 · rw [List.length_append,List.length_singleton] at hj
   rw [rowR_snoc]
   split
   · rename_i h1;exact h.len j h1
   · rw [if_pos (by omega)];exact ⟨hl,hr⟩
end Go.Proofs.Ytmbckkcgiafagaa
namespace Go.Proofs.Ytmbckkcgiafagaa.lBytesNumbers
open Go.RowKit
theorem l01From_any (r : Nat) (w : World) (hr : r < 4294967296) : Calls Try.prog 158 #[.int .i64 r] w fun e w' => e = .returned (.float .f32 r) ∧ w = w' := by
 have hxf := run_f32from (r : Int);rw [Int.toNat_natCast] at hxf;go_enter Try.func158,Try.ntmps158;go_wp2;go_ret;exact ⟨rfl,rfl⟩
def lst (s : ByteArray) : List UInt8 := s.data.toList
def res (s : ByteArray) : List Nat × Bool :=
 if (lst s).length ≤ 16384 ∧ bytesOf (numsF (lst s) ((lst s).length / 4)) = lst s then (numsF (lst s) ((lst s).length / 4),true) else ([],false)
end Go.Proofs.Ytmbckkcgiafagaa.lBytesNumbers
namespace Go.Proofs.Ytmbckkcgiafagaa.lNumbersBytes
open Go.RowKit
def res (xs : List Nat) : ByteArray × Bool := if xs.length ≤ 4096 then (⟨(bytesOf xs).toArray⟩,true) else (⟨#[]⟩,false)
end Go.Proofs.Ytmbckkcgiafagaa.lNumbersBytes
namespace Go.Proofs.Ytmbckkcgiafagaa.lArchiveOf
open Go.RowKit
def go : List UInt8 → List ByteArray → Option (List UInt8)
 | a,[] => some a
 | a,s :: l => if s.size ≤ 20000 then go (a ++ (leB s.size 4 ++ s.data.toList)) l else none
def fin : Option (List UInt8) → ByteArray × Bool
 | some a => (⟨a.toArray⟩,true)
 | none => (⟨#[]⟩,false)
def res (l : List ByteArray) : ByteArray × Bool := if l.length ≤ 8 then fin (go [] l) else (⟨#[]⟩,false)
end Go.Proofs.Ytmbckkcgiafagaa.lArchiveOf
namespace Go.Proofs.Ytmbckkcgiafagaa.lNumberBytes
open Go.RowKit lBytesNumbers lArchiveOf
theorem r8Long_any (p q : Option Addr) (n c m d : Nat) (w : World) : Calls Try.prog 9 #[.slice p n c,.slice q m d] w fun e w' => e = .returned (.bool (decide (48 < n) || decide (48 < m))) ∧ w = w' := by
 by_cases h : 48 < n
 · have h1 : decide (48 < n) = true := decide_eq_true h
   go_enter Try.func9,Try.ntmps9;go_wp2;go_ret;exact ⟨by simp [h],rfl⟩
 · by_cases h2 : 48 < m
   · go_enter Try.func9,Try.ntmps9
     go_wp2;go_ret;exact ⟨by first | (simp [h,h2];done) | (simp [h,h2];omega),rfl⟩
   · go_enter Try.func9,Try.ntmps9
     go_wp2;go_ret;exact ⟨by first | (simp [h,h2];done) | (simp [h,h2];omega),rfl⟩
end Go.Proofs.Ytmbckkcgiafagaa.lNumberBytes
