/- A part of the proofs: R8S, BNum, NumB, Arch, NumberBytesLaw, WorkersLaw, OpenB. -/
import Derived.Test.YtmbckkcgiafagaaZ13FnWork
import Derived.Test.YtmbckkcgiafagaaZ08FnWork
import Derived.Test.YtmbckkcgiafagaaZ35FnWork
import Derived.Test.YtmbckkcgiafagaaZ12FnWork
import Derived.Test.YtmbckkcgiafagaaZ02FnWork
import Derived.Test.YtmbckkcgiafagaaZ06FnWork
import Derived.Test.YtmbckkcgiafagaaZ03FnWork
import Derived.Test.YtmbckkcgiafagaaZ27FnWork
import Derived.Test.YtmbckkcgiafagaaZ34FnWork
import Derived.Test.YtmbckkcgiafagaaZ31FnWork
set_option linter.unusedSimpArgs false
set_option linter.unusedVariables false
set_option maxRecDepth 100000
set_option maxHeartbeats 16000000
namespace Go.Proofs.Ytmbckkcgiafagaa
open Go.RowKit
theorem atR_snoc (l : List jbt.T) (d : jbt.T) (j : Nat) : atR (l ++ [d]) j = if j < l.length then atR l j else if j = l.length then d.1 else 0 := by
 unfold atR
 by_cases h : j < l.length
 · rw [if_pos h,List.getElem?_append_left h]
 · rw [if_neg h,List.getElem?_append_right (by omega)]
   by_cases h2 : j = l.length
   · subst h2;rw [if_pos rfl,Nat.sub_self];rfl
   · rw [if_neg h2,List.getElem?_eq_none (by simp;omega)];rfl
theorem rowR_snoc (l : List jbt.T) (d : jbt.T) (j : Nat) : rowR (l ++ [d]) j = if j < l.length then rowR l j else if j = l.length then d.2.1 else [] := by
 unfold rowR
 by_cases h : j < l.length
 · rw [if_pos h,List.getElem?_append_left h]
 · rw [if_neg h,List.getElem?_append_right (by omega)]
   by_cases h2 : j = l.length
   · subst h2;rw [if_pos rfl,Nat.sub_self];rfl
   · rw [if_neg h2,List.getElem?_eq_none (by simp;omega)];rfl
structure ReqG (I : Nat) (l : List jbt.T) (a : Int) : Prop where
 lo : ∀ j,j < l.length → 0 ≤ atR l j ∧ atR l j ≤ a
 mono : ∀ i k,i + k < l.length → atR l i ≤ atR l (i + k)
 len : ∀ j,j < l.length → (rowR l j).length = I ∧ ∀ x ∈ rowR l j,x < 4294967296
 a0 : 0 ≤ a ∧ a ≤ 5 * l.length
theorem ReqG.nil (I : Nat) : ReqG I [] 0 := ⟨fun j h => by simp at h,fun i k h => by simp at h,fun j h => by simp at h,by simp⟩
theorem ReqG.snoc {I : Nat} {l : List jbt.T} {a b : Int} (h : ReqG I l a) {row : List Nat} (hl : row.length = I) (hr : ∀ x ∈ row,x < 4294967296) (hb : a ≤ b) (hb5 : b ≤ a + 5) : ReqG I (l ++ [(b,row,())]) b := by
 have ha := h.a0;refine ⟨fun j hj => ?_,fun i k hk => ?_,fun j hj => ?_,by rw [List.length_append,List.length_singleton];omega⟩
 · rw [List.length_append,List.length_singleton] at hj
   rw [atR_snoc]
   split
   · rename_i h1;have := h.lo j h1;omega
   · rw [if_pos (by omega)];show 0 ≤ b ∧ b ≤ b;omega
 · rw [List.length_append,List.length_singleton] at hk
   rw [atR_snoc,atR_snoc]
   by_cases h1 : i + k < l.length
   · rw [if_pos (by omega),if_pos h1];exact h.mono i k h1
   · have h2 : i + k = l.length := by omega
     rw [if_neg h1,if_pos h2];show _ ≤ b
     split
     · rename_i h3;have := h.lo i h3;omega
     · rw [if_pos (by omega)];exact Int.le_refl _
 · rw [List.length_append,List.length_singleton] at hj
   rw [rowR_snoc]
   split
   · rename_i h1;exact h.len j h1
   · rw [if_pos (by omega)];exact ⟨hl,hr⟩
end Go.Proofs.Ytmbckkcgiafagaa
namespace Go.Proofs.Ytmbckkcgiafagaa.lBytesNumbers
open Go.RowKit
theorem l01From_any (r : Nat) (w : World) (hr : r < 4294967296) : Calls Try.prog 158 #[.int .i64 r] w fun e w' => e = .returned (.float .f32 r) ∧ w = w' := by
 have hxf := run_f32from (r : Int);rw [Int.toNat_natCast] at hxf;go_enter Try.func158,Try.ntmps158;go_wp2;go_ret;exact ⟨rfl,rfl⟩
def lst (s : ByteArray) : List UInt8 := s.data.toList
def res (s : ByteArray) : List Nat × Bool :=
 if (lst s).length ≤ 16384 ∧ bytesOf (numsF (lst s) ((lst s).length / 4)) = lst s then (numsF (lst s) ((lst s).length / 4),true) else ([],false)
end Go.Proofs.Ytmbckkcgiafagaa.lBytesNumbers
namespace Go.Proofs.Ytmbckkcgiafagaa.lNumbersBytes
open Go.RowKit
def res (xs : List Nat) : ByteArray × Bool := if xs.length ≤ 4096 then (⟨(bytesOf xs).toArray⟩,true) else (⟨#[]⟩,false)
end Go.Proofs.Ytmbckkcgiafagaa.lNumbersBytes
namespace Go.Proofs.Ytmbckkcgiafagaa.lArchiveOf
open Go.RowKit
def go : List UInt8 → List ByteArray → Option (List UInt8)
 | a,[] => some a
 | a,s :: l => if s.size ≤ 20000 then go (a ++ (leB s.size 4 ++ s.data.toList)) l else none
def fin : Option (List UInt8) → ByteArray × Bool
 | some a => (⟨a.toArray⟩,true)
 | none => (⟨#[]⟩,false)
def res (l : List ByteArray) : ByteArray × Bool := if l.length ≤ 8 then fin (go [] l) else (⟨#[]⟩,false)
end Go.Proofs.Ytmbckkcgiafagaa.lArchiveOf
namespace Go.Proofs.Ytmbckkcgiafagaa.lNumberBytes
open Go.RowKit lBytesNumbers lArchiveOf
theorem r8Long_any (p q : Option Addr) (n c m d : Nat) (w : World) : Calls Try.prog 9 #[.slice p n c,.slice q m d] w fun e w' => e = .returned (.bool (decide (48 < n) || decide (48 < m))) ∧ w = w' := by
 by_cases h : 48 < n
 · have h1 : decide (48 < n) = true := decide_eq_true h
   go_enter Try.func9,Try.ntmps9;go_wp2;go_ret;exact ⟨by simp [h],rfl⟩
 · by_cases h2 : 48 < m
   · go_enter Try.func9,Try.ntmps9
     go_wp2;go_ret;exact ⟨by first | (simp [h,h2];done) | (simp [h,h2];omega),rfl⟩
   · go_enter Try.func9,Try.ntmps9
     go_wp2;go_ret;exact ⟨by first | (simp [h,h2];done) | (simp [h,h2];omega),rfl⟩
end Go.Proofs.Ytmbckkcgiafagaa.lNumberBytes
namespace Go.Proofs.Ytmbckkcgiafagaa.lWorkers
open Go.RowKit
theorem inL_nat {l : List jab.T} (hM : ModOk l) : ∃ m : Nat,(m : Int) = inL l 0 ∧ 1 ≤ m ∧ m ≤ 8 := by
 have hp := hM.pos;have h1 := layD_int (hM.lay 0 (by omega));have h2 : inL l 0 = (l[0]'(by omega)).2.1 := by unfold inL;rw [List.getElem?_eq_getElem (show 0 < l.length by omega)];rfl
 exact ⟨(l[0]'(by omega)).2.1.toNat,by rw [h1.1,h2],h1.2.2.2.1,h1.2.2.1⟩
theorem law_any (p0 q0 : Option Addr) (n0 c0 m0 d0 : Nat) (bs ms : List Nat) (w : World) (hc0 : Cs w p0 (u8s bs)) (hl0 : bs.length = n0) (hb0 : ∀ b ∈ bs,b < 256) (hd0 : Cs w q0 (u8s ms)) (hm0 : ms.length = m0) (hb1 : ∀ b ∈ ms,b < 256) :
 Calls Try.prog 4 #[.slice p0 n0 c0,.slice q0 m0 d0] w fun e w' => e = .returned (.bool true) ∧ Ext w w' := by
 go_enter Try.func4,Try.ntmps4;go_wp2_with fail;refine (lNumberBytes.r8Long_any _ _ _ _ _ _ _).mono ?_;rintro e w1 ⟨rfl,rfl⟩
 by_cases hlong : 48 < n0 ∨ 48 < m0
 · have hd : (decide (48 < n0) || decide (48 < m0)) = true := by simpa using hlong
   rw [hd];go_wp2;go_ret;exact ⟨rfl,Ext.refl _⟩
 have hn0 : n0 ≤ 48 := by omega
 have hmm0 : m0 ≤ 48 := by omega
 have hd : (decide (48 < n0) || decide (48 < m0)) = false := by simp;omega
 rw [hd];clear hd hlong;go_wp2_with fail;refine (R8Model_any p0 n0 c0 bs _ hc0 hl0 (by omega) hb0).mono ?_;rintro e w1 ⟨L,q,c,rfl,hmod,htape,hfit,ho,e1⟩
 have hM := modOk hmod;obtain ⟨O,hO,hO1,hO8⟩ := outL_nat hM;obtain ⟨I,hI,hI1,hI8⟩ := inL_nat hM;obtain ⟨obs,ow,_⟩ := ho;obtain ⟨p',c',css,hv,LY⟩ := lays_of ow.rep hfit
 cases hv
 have b5 := HB.new w1 #[.slice q L.length c] 38;have e2 := Ext.alloc w1 (.cells #[.slice q L.length c] 38);obtain ⟨w2,hw2⟩ : ∃ w2,w2 = w1.alloc (.cells #[.slice q L.length c] 38) := ⟨_,rfl⟩;rw [← hw2] at b5 e2;go_wp2_with fail;rw [← hw2];clear hw2;have E2 := e1.trans e2;refine (r8At_any q0 m0 d0 ms 40 6 w2 (hd0.ext E2) hm0 (by omega) hb1 (by omega)).mono ?_;rintro e w3 ⟨x,rfl,hx,rfl⟩
 have hx := hx (by omega);obtain ⟨R,hR⟩ : ∃ R : Nat,(1 : Int) + (x : Int) = (R : Int) := ⟨1 + x,by omega⟩;have hR1 : 1 ≤ R ∧ R ≤ 6 := by omega
 clear hx;go_wp2_with fail;refine (r8At_any q0 m0 d0 ms 41 R w2 (hd0.ext E2) hm0 (by omega) hb1 (by omega)).mono ?_;rintro e w3 ⟨y,rfl,hy,rfl⟩
 have hy := hy (by omega);obtain ⟨k,hk⟩ : ∃ k : Nat,(1 : Int) + (y : Int) = (k : Int) := ⟨1 + y,by omega⟩;have hk1 : 1 ≤ k ∧ k ≤ R := by omega
 clear hy;go_wp2_with fail;refine (r8At_any q0 m0 d0 ms 42 3 w2 (hd0.ext E2) hm0 (by omega) hb1 (by omega)).mono ?_;rintro e w3 ⟨kd,rfl,hkd,rfl⟩
 have hkd := hkd (by omega);have hL1 := hM.pos;have hLY := LY.ext e2;obtain ⟨ci,k1,_,k2,k4⟩ := hLY.at (i := L.length - 1) (by omega);rw [outL_eq rfl] at k2;obtain ⟨di,j1,j2,_,_⟩ := hLY.at (i := 0) (by omega);rw [← hO] at k2;rw [← hI] at j2;have l1 := hLY.cs;have l3 := hLY.size;have l5 := hLY.cnt;have K1 := hid k1;have K2 := hid k2;have J1 := hid j1;have J2 := hid j2;have hfL := hid hfit;have hML := hid hM;have HO := hid hO;have HI := hid hI;have hmodL := hid hmod;have htapeL := hid htape;have HLY := hid hLY;have hL6 := hM.few;have HRP := hid ow.rep;clear k1 k2 j1 j2 LY hLY ow hO hI hM hmod hfit htape;obtain ⟨n,hn⟩ : ∃ n,n = L.length := ⟨_,rfl⟩;rw [← hn] at l5 hL1 K1 b5 hL6 HLY ⊢;have HN := hid hn;have L5 := hid l5;clear hn l5;have r5 := b5.cell 0 rfl;have hw1 : IntKind.i64.wrap ((n : Int) - 1) = (n : Int) - 1 := jbd _ (by omega) (by omega);go_wp2_with (first | ((with_reducible show gx14);refine wl_ldField (f := 1) (off := 1) (j := 0) rfl rfl rfl rfl rfl rfl (fun _ => rfl) (fun _ _ => rfl) fo_implLayer_1 rfl rfl rfl l1 l3 L5.out (by omega) k4 J1.out J2.out ?_) | fail);refine (R8Tensor_any q0 m0 d0 ms R I w2 (hd0.ext E2) hm0 (by omega) hb1 (by omega) (by omega)).mono ?_;rintro e w4 ⟨xs,tq,tc,us,rfl,hxl,hxb,ot,hfx,e4⟩
 have hRI : R * I ≤ 6 * 8 := Nat.mul_le_mul hR1.2 hI8;have b9 := HB.new w4 #[.int .i64 R,.int .i64 I,.slice tq (R * I) tc] 27;have e5 := Ext.alloc w4 (.cells #[.int .i64 R,.int .i64 I,.slice tq (R * I) tc] 27);obtain ⟨w5,hw5⟩ : ∃ w5,w5 = w4.alloc (.cells #[.int .i64 R,.int .i64 I,.slice tq (R * I) tc] 27) := ⟨_,rfl⟩;have s5 : w5.heap.size = w4.heap.size + 1 := by rw [hw5];simp
 rw [← hw5] at b9 e5;have e25 := e4.trans e5;have r5 := e25.cell r5;have l1 := l1.ext e25;have E5 := E2.trans e25;have HS5 := hid s5;clear s5;subst hw5;go_wp2_with (first | ((with_reducible show gx14);refine wl_ldField (f := 2) (off := 2) (j := n - 1) rfl rfl rfl rfl rfl rfl (fun _ => rfl) (fun _ _ => rfl) fo_implLayer_2 rfl rfl (by omega) l1 l3 L5.out (by omega) k4 K1.out K2.out ?_) | fail);obtain ⟨w5,hw5⟩ : ∃ w5,w5 = w4.alloc (.cells #[.int .i64 R,.int .i64 I,.slice tq (R * I) tc] 27) := ⟨_,rfl⟩;rw [← hw5] at b9 e5 HS5 e25 r5 l1 E5 ⊢;clear hw5;have s5 := HS5.out;have hOR : R * O ≤ 6 * 8 := Nat.mul_le_mul hR1.2 hO8;refine (R8Tensor_any p0 n0 c0 bs R O w5 (hc0.ext E5) hl0 (by omega) hb0 (by omega) (by omega)).mono ?_;rintro e w6 ⟨ys,gq,gc,vs,rfl,hyl,hyb,og,hfy,e6⟩
 have b10 := HB.new w6 #[.int .i64 R,.int .i64 O,.slice gq (R * O) gc] 27;have e7 := Ext.alloc w6 (.cells #[.int .i64 R,.int .i64 O,.slice gq (R * O) gc] 27);obtain ⟨w7,hw7⟩ : ∃ w7,w7 = w6.alloc (.cells #[.int .i64 R,.int .i64 O,.slice gq (R * O) gc] 27) := ⟨_,rfl⟩;have s7 : w7.heap.size = w6.heap.size + 1 := by rw [hw7];simp
 rw [← hw7] at b10 e7;have e57 := e6.trans e7;have E7 := E5.trans e57;have b5' := hid ((b5.ext e25).ext e57);have b9' := hid (b9.ext e57);have hx' := hid ((jbb ot).ext (e5.trans e57));have hy' := hid ((jbb og).ext e7);have hcx := (ja1 ot).1;have hcx2 := (ja1 ot).2;have hcy := (ja1 og).1;have hcy2 := (ja1 og).2;have HL7 := hid ((HLY.out.ext e25).ext e57);have HFX := hid hfx;have HFY := hid hfy;have HXL := hid hxl;have HYL := hid hyl;clear l1 l3 k4 r5 b5 b9 hfx hfy hxl hyl ot og HS5;go_wp2_with fail;rw [← hw7];clear hw7;refine (WorkerRows_yes R k w7 (by omega) (by omega) (by omega) (by omega) (by omega)).mono ?_;rintro e w8 ⟨pcs,pbs,rfl,po,_,_,e8⟩
 obtain ⟨pp,pc,pus,hv2,hpc,hpl,hpa⟩ : ∃ (pp : Option Addr) (pc : Nat) (pus : List Value),pcs = [.slice pp k pc] ∧ Cs w8 pp pus ∧ pus.length = k ∧ ∀ (i : Nat) (xs : List Int),(wrRows R k k)[i]? = some xs → ∃ (q : Option Addr) (c' : Nat),pus[i]? = some (Value.slice q xs.length c') ∧ Cs w8 q (xs.map (Value.int .i64)) := by
  have o2 : Own w8 (.sl (.sl .int)) pcs (wrRows R k k) pbs := po;obtain ⟨p3,c3,rfl,_⟩ := rep_val o2.rep;obtain ⟨p4,c4,us4,h1,h2,h3,h4⟩ := parts_of o2.rep;exact ⟨p4,c4,us4,by rw [h1,wrRows_len],h2,h3.trans (wrRows_len _ _ _),h4⟩
 subst hv2;have hPA : ∀ i,i < k → ∃ (q : Option Addr) (c' : Nat),Hid (pus[i]? = some (Value.slice q 2 c')) ∧ Cs w8 q [.int .i64 (wrF R k i : Int),.int .i64 (wrN R k i : Int)] := fun i hi => hpa i [(wrF R k i : Int),(wrN R k i : Int)] (by simp [wrRows,hi])
 have HPA := hid hPA;have Hpl := hid hpl;clear po hpa hPA hpl;have hdk : ((k : Int) != (k : Int)) = false := bne_f rfl;simp only [ofCs,Sh.agg,if_true,List.headD_cons,Bool.false_eq_true,if_false];go_wp2_with fail;go_loopw [13,14] (fun fv iv wr => ∃ i : Nat,i ≤ k ∧ iv = .int .i64 (i : Int) ∧ fv = .int .i64 ((wrF R k i : Nat) : Int) ∧ Ext w8 wr) (fun _ iv _ => k - (intOf iv).toNat)
 case atStart => exact ⟨0,by omega,rfl,rfl,Ext.refl _⟩
 case round =>
  obtain ⟨i,hi,rfl,rfl,he⟩ := hrel
  by_cases hlt : i < k
  · obtain ⟨q1,c1,h1,h2⟩ := HPA.out i hlt
    obtain ⟨Q,hQ⟩ : ∃ Q,Q = R / k := ⟨_,rfl⟩;have HQ : (R : Int) / (k : Int) = ((Q : Nat) : Int) := by rw [hQ,Int.natCast_ediv]
    have hQ6 : Q ≤ 6 := by rw [hQ];exact Nat.le_trans (Nat.div_le_self _ _) hR1.2
    have hN1 : Q ≤ wrN R k i ∧ wrN R k i ≤ Q + 1 := by rw [hQ];unfold wrN;split <;> omega
    have hF : wrF R k i + wrN R k i ≤ R := wrF_part hlt;have HF1 : Hid (wrF R k (i + 1) = wrF R k i + wrN R k i) := rfl;have HNN : ∀ j,i = j + 1 → wrN R k i ≤ wrN R k j := fun j hj => by subst hj;unfold wrN;split <;> split <;> omega
    have HNN := hid HNN;obtain ⟨N,hN⟩ : ∃ N,N = wrN R k i := ⟨_,rfl⟩;obtain ⟨F,hFe⟩ : ∃ F,F = wrF R k i := ⟨_,rfl⟩;rw [← hN] at HNN h2 hN1 hF HF1;rw [← hFe] at h2 hF HF1 ⊢;have HN := hid hN;have HFe := hid hFe;clear hN hFe hQ;have hFF : ((F : Int) != (F : Int)) = false := bne_f rfl;have g1 : decide ((N : Int) < (Q : Int)) = false := by simp;omega
    have g2 : decide ((Q : Int) + 1 < (N : Int)) = false := by simp;omega
    have g3 : decide (N < Q) = false := by simp;omega
    have g4 : decide (Q + 1 < N) = false := by simp;omega
    have hdl : decide ((i : Int) < (k : Int)) = true := by simp;omega
    have hk0 : (k = 0) = False := eq_false (by omega);have hwQ : IntKind.i64.wrap (Q : Int) = (Q : Int) := jbd _ (by omega) (by omega);have hwQ1 : IntKind.i64.wrap ((Q : Int) + 1) = (Q : Int) + 1 := jbd _ (by omega) (by omega)
    by_cases hi0 : i = 0
    · have hd0 : decide ((0 : Int) < (i : Int)) = false := by simp;omega
      have hd00 : decide (0 < i) = false := by simp;omega
      clear hi0;go_wp2;have eD := Ext.drew wr;have kk := (hpc.ext he).ext eD;have k1 := (h2.ext he).ext eD;refine jae (F := fun _ _ _ => False) (by kernel_rfl) (by kernel_rfl) (by kernel_rfl) ?_;intro wf hwf
      repeat (first
       | ((first | (refine ja2 rfl ?_) | (refine x_mv rfl rfl rfl ?_) | (refine x_as rfl rfl rfl ?_) | ((with_reducible show gx0);first | (refine jb1 rfl rfl (fun _ => rfl) rfl (fun _ => rfl) rfl rfl kk Hpl.out (by omega) (by omega) ?_;intro u hu;rw [Int.toNat_natCast] at hu;rw [h1.out] at hu;cases hu) | (refine jb1 rfl rfl (fun _ => rfl) rfl (fun _ => rfl) rfl rfl k1 rfl (by omega) (by omega) ?_;intro u hu;cases hu)));simp only [Act.put,jac,pu1,pu2,pu3,pu4,pu5])
       | (refine jbm rfl fun K hK w1 hw1 => ?_;go_simp;refine hK _ ?_;clear hK K  hw1 w1))
      refine jbn ?_;have xB := (he.trans eD).trans hwf;have kq := h2.ext xB;have kp := hpc.ext xB;clear kk k1;have H1 := hid h1.out
      go_wp2_with (first
       | ((with_reducible show gx2);refine jar rfl rfl rfl rfl (fun _ => rfl) rfl rfl kp Hpl.out (by omega) (by omega) ?_;intro u hu;rw [Int.toNat_natCast,H1.out] at hu;cases hu)
       | ((with_reducible show gx2);refine jar rfl rfl rfl rfl (fun _ => rfl) rfl rfl kq rfl (by omega) (by omega) ?_;intro u hu;cases hu)
       | fail)
      go_roundw
      case rel => exact ⟨i + 1,by omega,by go_num,by rw [HF1.out];go_num,xB⟩
      case measure => simp [intOf];omega
    · obtain ⟨j,hj⟩ : ∃ j,i = j + 1 := ⟨i - 1,by omega⟩
      obtain ⟨q2,c2,z1,z2⟩ := HPA.out j (by omega);have hle := HNN.out j hj;obtain ⟨M,hM⟩ : ∃ M,M = wrN R k j := ⟨_,rfl⟩;rw [← hM] at z2 hle;have hd0 : decide ((0 : Int) < (i : Int)) = true := by simp;omega
      have hd00 : decide (0 < i) = true := by simp;omega
      have hm0 : decide ((M : Int) < (N : Int)) = false := by simp;omega
      have hm00 : decide (M < N) = false := by simp;omega
      have hjw : IntKind.i64.wrap ((i : Int) - 1) = (j : Int) := by rw [hj];have h : ((j + 1 : Nat) : Int) - 1 = (j : Int) := by omega
                                                                    rw [h];exact jbd _ (by omega) (by omega)
      have HJ := hid hj;have hji : j < i := by omega
      clear hM hi0 hj hle;go_wp2;have eD := Ext.drew wr;have kk := (hpc.ext he).ext eD;have k1 := (h2.ext he).ext eD;have k2 := (z2.ext he).ext eD;refine jae (F := fun _ _ _ => False) (by kernel_rfl) (by kernel_rfl) (by kernel_rfl) ?_;intro wf hwf
      repeat (first
       | ((first | (refine ja2 rfl ?_) | (refine x_mv rfl rfl rfl ?_) | (refine x_as rfl rfl rfl ?_) | ((with_reducible show gx0);first | (refine jb1 rfl rfl (fun _ => rfl) rfl (fun _ => rfl) rfl rfl kk Hpl.out (by omega) (by omega) ?_;intro u hu;rw [Int.toNat_natCast] at hu;first | (rw [h1.out] at hu;cases hu) | (rw [z1.out] at hu;cases hu)) | (refine jb1 rfl rfl (fun _ => rfl) rfl (fun _ => rfl) rfl rfl k1 rfl (by omega) (by omega) ?_;intro u hu;cases hu) | (refine jb1 rfl rfl (fun _ => rfl) rfl (fun _ => rfl) rfl rfl k2 rfl (by omega) (by omega) ?_;intro u hu;cases hu)));simp only [Act.put,jac,pu1,pu2,pu3,pu4,pu5])
       | (refine jbm rfl fun K hK w1 hw1 => ?_;go_simp;refine hK _ ?_;clear hK K  hw1 w1))
      refine jbn ?_;have xB := (he.trans eD).trans hwf;have kq := h2.ext xB;have kp := hpc.ext xB;clear kk k1;have H1 := hid h1.out
      go_wp2_with (first
       | ((with_reducible show gx2);refine jar rfl rfl rfl rfl (fun _ => rfl) rfl rfl kp Hpl.out (by omega) (by omega) ?_;intro u hu;rw [Int.toNat_natCast,H1.out] at hu;cases hu)
       | ((with_reducible show gx2);refine jar rfl rfl rfl rfl (fun _ => rfl) rfl rfl kq rfl (by omega) (by omega) ?_;intro u hu;cases hu)
       | fail)
      go_roundw
      case rel => exact ⟨i + 1,by omega,by go_num,by rw [HF1.out];go_num,xB⟩
      case measure => simp [intOf];omega
  · have hik : i = k := by omega
    have hRk : wrF R k i = R := by rw [hik];exact wrF_all hk1.1
    rw [hRk];have hdl : decide ((i : Int) < (k : Int)) = false := by simp;omega
    have hdl2 : decide (i < k) = false := by simp;omega
    clear hi hik hRk HPA Hpl hpc;have E8 := E7.trans (e8.trans he);have b5 := b5'.out.ext (e8.trans he);have b9 := b9'.out.ext (e8.trans he);have b10 := b10.ext (e8.trans he);have hG := hid (gradB_drawn (L := L) (R := R) (I := I) (O := O) (nx := xs.length) (ny := ys.length) hmodL.out htapeL.out HI.out HO.out HXL.out HYL.out (by omega) (by omega) (by omega));have CW := hid (fun W (h : Ext wr W) (wk : Int) => WorkerGradients_any q tq gq n c (R * I) tc (R * O) gc R I R O wk css L xs ys us vs W ((HL7.out.ext (e8.trans he)).ext h) HXL.out HYL.out (by unfold maxLen;omega) (by unfold maxLen;omega) hcx hcy ((hx'.out.ext (e8.trans he)).ext h) HFX.out ((hy'.out.ext (e8.trans he)).ext h) HFY.out);have CM := hid (fun W (h : Ext wr W) => ModelGradients_any q tq gq n c (R * I) tc (R * O) gc R I R O css L xs ys us vs W ((HL7.out.ext (e8.trans he)).ext h) HXL.out HYL.out (by unfold maxLen;omega) (by unfold maxLen;omega) hcx hcy ((hx'.out.ext (e8.trans he)).ext h) HFX.out ((hy'.out.ext (e8.trans he)).ext h) HFY.out);have CS := hid (fun W (h : Ext wr W) (wk kq : Int) => SharedGradients_any q tq gq n c (R * I) tc (R * O) gc R I R O wk kq css L xs ys us vs W ((HL7.out.ext (e8.trans he)).ext h) HXL.out HYL.out (by unfold maxLen;omega) (by unfold maxLen;omega) hcx hcy ((hx'.out.ext (e8.trans he)).ext h) HFX.out ((hy'.out.ext (e8.trans he)).ext h) HFY.out);have CT := hid (fun W (h : Ext wr W) (wk kq : Int) (zb z : Nat) (hz : cn .f32 zb = z) => SharedStep_any q tq gq n c (R * I) tc (R * O) gc R I R O wk kq css L xs ys us vs zb z W ((HL7.out.ext (e8.trans he)).ext h) HXL.out HYL.out (by unfold maxLen;omega) (by unfold maxLen;omega) hcx hcy ((hx'.out.ext (e8.trans he)).ext h) HFX.out ((hy'.out.ext (e8.trans he)).ext h) HFY.out hz);have CP := hid (fun W (h : Ext wr W) => ParamsOf_any q n c L css W ((HL7.out.ext (e8.trans he)).ext h));have x0 := b5.cell 0 rfl;have y0 := b9.cell 0 rfl;have y1 := b9.cell 1 rfl;have y2 := b9.cell 2 rfl;have z0 := b10.cell 0 rfl;have z1 := b10.cell 1 rfl;have z2 := b10.cell 2 rfl;go_wp2_with fail;refine (CW.out wr (Ext.refl _) 1).mono ?_;rintro e wA ⟨⟨hb,_⟩ | ⟨_,v1,css1,bss1,lq1,lc1,lvs1,rfl,o1⟩,eA⟩
    · exact absurd (hb.symm.trans (wgB_drawn hG.out (by omega) (k := 1) (by omega))) (by decide)
    have hx0 := eA.cell x0;have hy0 := eA.cell y0;have hy1 := eA.cell y1;have hy2 := eA.cell y2;have hz0 := eA.cell z0;have hz1 := eA.cell z1;have hz2 := eA.cell z2;go_wp2_with fail;refine (CM.out wA eA).mono ?_;rintro e wB ⟨⟨hb,_⟩ | ⟨_,gq2,gc2,lb2,gvs2,rfl,o2,f2,l2⟩,eB⟩
    · exact absurd (hb.symm.trans hG.out) (by decide)
    have hxl : xs.length = R * I := HXL.out;have hyl : ys.length = R * O := HYL.out;have hg0 := hG.out;obtain ⟨G,hGd⟩ : ∃ G,G = jb2 (jcv L R I xs R O ys) (wtsOf L R I xs R O ys) := ⟨_,rfl⟩;obtain ⟨Z,hZd⟩ : ∃ Z,Z = lossT (jcv L R I xs R O ys) := ⟨_,rfl⟩;rw [← hGd] at o2 f2 ⊢;rw [← hZd] at l2
    have o1 : WgOwn wA wr.heap.size [G] [Z] v1 lq1 1 lc1 css1 bss1 lvs1 := by
     have h : WgOwn wA wr.heap.size (jcf L I xs O ys R 1 1) (jb8 L I xs O ys R 1 1) v1 lq1 1 lc1 css1 bss1 lvs1 := o1;rw [wgLists_one hxl hyl,wgLosses_one hxl hyl,← hGd,← hZd] at h;exact h
    obtain ⟨P,hP⟩ : ∃ P,P = (parF L).length := ⟨_,rfl⟩;have hP4 : P ≤ 432 := by rw [hP];exact parF_few (modOk hmodL.out)
    have hGl : G.length = P := by rw [hGd,← wgList_one hxl hyl,hP];exact wgList_len hg0 hxl hyl (Nat.le_refl 1) (by omega) (by omega)
    rw [hGl] at o2 ⊢;obtain ⟨p1,c1,us1,hv1,FL1,_⟩ := grow_fls o1.ls;have hv1 : v1 = .slice p1 1 c1 := hv1;subst hv1;have FB := FL1.ext eB;obtain ⟨rq,rc,rvs,h1,h2,h3,_⟩ := FB.at' 0 (by simp);have h1 : us1[0]? = some (.slice rq G.length rc) := h1;have h3 : F32s rvs G := h3;rw [hGl] at h1;have lf := o1.fl;have lcs := (jbb o1.fs).ext eB;obtain ⟨lb1,g1,g2⟩ := lf.2 0 (by simp);have g2 : cn .f32 lb1 = Z := g2;have HH1 := hid h1;have HG1 := hid g1;have HU1 : Hid (us1.length = 1) := FB.cnt;have HV1 : Hid (lvs1.length = 1) := lf.1;have fbc := FB.cs;have ocs := jbb o2;have HGl := hid hGl;have HP := hid hP;have HGd := hid hGd;have HSM := hid (g2.trans l2.symm);have XB := eA.trans eB;clear hGd hZd hP hGl hxl hyl hg0 FL1 FB h1 g1 g2 l2 lf o1 o2 x0 y0 y1 y2 z0 z1 z2 hx0 hy0 hy1 hy2 hz0 hz1 hz2;go_wp2_with (first | ((with_reducible show gx2);refine lReduceLists.wl_idxloadW (j := 0) (by first | rfl | (go_simp;done)) rfl (fun _ => by first | rfl | (go_simp;done)) rfl (fun _ => rfl) rfl rfl rfl lcs HV1.out (by omega) HG1.out ?_) | fail);refine (same_e lb1 lb2 _ HSM.out).mono ?_;rintro e w9 ⟨rfl,rfl⟩
    go_wp2_with (first | ((with_reducible show gx2);refine lReduceLists.wl_idxloadW (j := 0) (by first | rfl | (go_simp;done)) rfl (fun _ => by first | rfl | (go_simp;done)) rfl (fun _ => rfl) rfl rfl rfl fbc HU1.out (by omega) HH1.out ?_) | fail);refine (r8Same_e rq gq2 P rc gc2 rvs gvs2 G _ HGl.out (by omega) h2 h3 ocs f2).mono ?_;rintro e wB2 ⟨rfl,eB2⟩
    have XB2 := XB.trans eB2;clear lcs fbc ocs h2 h3 f2 XB;have hx0 := (b5.ext XB2).cell 0 rfl;have hy0 := (b9.ext XB2).cell 0 rfl;have hy1 := (b9.ext XB2).cell 1 rfl;have hy2 := (b9.ext XB2).cell 2 rfl;have hz0 := (b10.ext XB2).cell 0 rfl;have hz1 := (b10.ext XB2).cell 1 rfl;have hz2 := (b10.ext XB2).cell 2 rfl;go_wp2_with fail;refine (CW.out wB2 XB2 k).mono ?_;rintro e wC ⟨⟨hb,_⟩ | ⟨_,v3,css3,bss3,lq3,lc3,lvs3,rfl,o3⟩,eC⟩
    · exact absurd (hb.symm.trans (wgB_drawn hG.out (by omega) (k := k) (by omega))) (by decide)
    obtain ⟨D,hD⟩ : ∃ D,D = jcf L I xs O ys R k k := ⟨_,rfl⟩;have o3 : WgOwn wC wB2.heap.size D (jb8 L I xs O ys R k k) v3 lq3 k lc3 css3 bss3 lvs3 := by rw [hD];exact o3
    have hDl : D.length = k := by rw [hD];exact wgLists_len _ _ _ _ _ _ _ _
    have hDE : EvenL D P := by rw [hD,HP.out];exact wgLists_even hG.out HXL.out HYL.out hk1.1 hk1.2
    obtain ⟨p3,c3,us3,hv3,_,_⟩ := grow_fls o3.ls;obtain ⟨bs3,ow3,_,_⟩ := o3.ls.own;have rp3 := ow3.rep;have CR := hid (fun W (h : Ext wC W) => (lReduceLists.impl_any (kd : Int) [v3] D W (Rep.ext h rp3)).mono fun e W' h => call_ok (okR_of (jaz.2 (by omega)) (by omega) (by omega) hDE (by omega)) h);have hRl : (redF (kd : Int) D).length = P := hDE.red (by omega) _;simp only [ofCs,Sh.agg,if_false,Bool.false_eq_true,List.headD_cons,hRl] at CR;rw [hDl] at hv3;subst hv3;have HRl := hid hRl;have HD := hid hD;have XC := XB2.trans eC;have jx0 := eC.cell hx0;have jy0 := eC.cell hy0;have jy1 := eC.cell hy1;have jy2 := eC.cell hy2;have jz0 := eC.cell hz0;have jz1 := eC.cell hz1;have jz2 := eC.cell hz2;clear hx0 hy0 hy1 hy2 hz0 hz1 hz2 hRl hD hDl hDE o3 rp3 ow3;go_wp2_with fail;refine (CR.out wC (Ext.refl _)).mono ?_;rintro e wD ⟨sq,sc,svs,rfl,s1,s2,eD⟩
    have XD := XC.trans eD;have hx0 := eD.cell jx0;have hy0 := eD.cell jy0;have hy1 := eD.cell jy1;have hy2 := eD.cell jy2;have hz0 := eD.cell jz0;have hz1 := eD.cell jz1;have hz2 := eD.cell jz2;clear jx0 jy0 jy1 jy2 jz0 jz1 jz2 CR;go_wp2_with fail;refine (CS.out wD XD k kd).mono ?_;rintro e wE ⟨⟨hb,_⟩ | ⟨_,aq,ac,ab,aus,rfl,_,ao,af,_⟩,eE⟩
    · exact absurd (hb.symm.trans (sgB_drawn (wgB_drawn hG.out (by omega) (k := k) (by omega)) (by omega))) (by decide)
    have af : F32s aus (redF (kd : Int) D) := by rw [HD.out];exact af
    rw [← HP.out] at ao ⊢;have XE := XD.trans eE;have jx0 := eE.cell hx0;have jy0 := eE.cell hy0;have jy1 := eE.cell hy1;have jy2 := eE.cell hy2;have jz0 := eE.cell hz0;have jz1 := eE.cell hz1;have jz2 := eE.cell hz2;clear hx0 hy0 hy1 hy2 hz0 hz1 hz2;go_wp2_with fail;refine (show Calls Try.prog 12 #[.slice q0 m0 d0,.int .i64 1,.int .i64 1] wE (GotT 1 1 wE) from R8Tensor_any q0 m0 d0 ms 1 1 wE (hd0.ext ((E7.trans (e8.trans he)).trans XE)) hm0 (by omega) hb1 (by omega) (by omega)).mono ?_;rintro e wF ⟨rs,zq,zc,zus,rfl,hzl,hzb,oz,hfz,eF⟩
    have hzl : rs.length = 1 := hzl;have zcs := (jbb oz);rw [show (1 * 1 : Nat) = 1 from rfl];have HZL := hid hzl;have XF := XE.trans eF;have hx0 := eF.cell jx0;have hy0 := eF.cell jy0;have hy1 := eF.cell jy1;have hy2 := eF.cell jy2;have hz0 := eF.cell jz0;have hz1 := eF.cell jz1;have hz2 := eF.cell jz2;clear jx0 jy0 jy1 jy2 jz0 jz1 jz2 hzl hzb oz;go_wp2_with (first | ((with_reducible show wpList _ _ _ (Oper.mk _ (Op.field _ _ _) _ _ _ _ :: _) _ _);refine wl_fldT (by first | rfl | (go_simp;done)) rfl rfl ?_) | ((with_reducible show gx2);refine jcx rfl rfl rfl rfl (fun _ => rfl) rfl rfl zcs hfz HZL.out (by omega) (by omega) ?_;intro zb gz0;have GZ := hid gz0;clear gz0) | fail);obtain ⟨z,hz⟩ : ∃ z,z = rs.getD (Int.toNat 0) 0 := ⟨_,rfl⟩;rw [← hz] at GZ;clear hz zcs hfz;refine (CT.out wF XF k kd zb z GZ.out).mono ?_;rintro e wG ⟨⟨hb,_⟩ | ⟨_,mq,mk,rfl,om⟩,eG⟩
    · exact absurd (hb.symm.trans (sgB_drawn (wgB_drawn hG.out (by omega) (k := k) (by omega)) (by omega))) (by decide)
    have om : jca [41,33] wF.heap.size (.sl jab) wG [.slice mq n mk] (wthF L (stepX (parF L) (redF (kd : Int) D) z) n) := by rw [HD.out];exact om
    have hsl : (stepX (parF L) (redF (kd : Int) D) z).length = (parF L).length := stepX_len _ _ _;obtain ⟨L',hL'⟩ : ∃ L',L' = wthF L (stepX (parF L) (redF (kd : Int) D) z) n := ⟨_,rfl⟩;have hnL := HN.out;have hp' : parF L' = stepX (parF L) (redF (kd : Int) D) z := by rw [hL',hnL];exact parF_wth_all hsl
    have hm' : modB L' = true := by rw [hL',hnL];exact wth_mod hsl hmodL.out
    have hf' : Fit (.sl jab) L' := by
     rw [hL'];refine wth_fit hfL.out (fun x hx => ?_) (by omega);obtain ⟨j,hj,rfl⟩ := List.mem_iff_getElem.1 hx;have h := stepX_at (P := parF L) (G := redF (kd : Int) D) (z := z) (i := j) (by omega);rw [List.getD_eq_getElem?_getD,List.getElem?_eq_getElem hj] at h;rw [show (stepX (parF L) (redF (kd : Int) D) z)[j] = _ from h];exact fop_lt _ _ _
    have hl' : L'.length = n := by rw [hL'];exact wthF_len (by omega)
    rw [← hL'] at om;obtain ⟨mbs,mow,_⟩ := om;obtain ⟨mp,mc,mcss,hmv,ML⟩ := lays_of mow.rep hf';rw [hl'] at hmv ML
    cases hmv
    have HM' := hid hm';have HP' := hid hp';have XG := XF.trans eG;have jx0 := eG.cell hx0;clear hx0 hy0 hy1 hy2 hz0 hz1 hz2 hm' hp' hf' hl' hsl hL' hnL mow;have bM := HB.new wG #[.slice mq n mk] 38;have eH := Ext.alloc wG (.cells #[.slice mq n mk] 38);obtain ⟨wH,hwH⟩ : ∃ wH,wH = wG.alloc (.cells #[.slice mq n mk] 38) := ⟨_,rfl⟩;rw [← hwH] at bM eH;have kx0 := eH.cell jx0;have XH := XG.trans eH;have MLH := ML.ext eH;clear jx0 ML;rw [hwH] at kx0;go_wp2_with fail;rw [← hwH] at kx0 ⊢;clear hwH;refine (CP.out wH XH).mono ?_;rintro e wI (⟨hb,_⟩ | ⟨_,uq,uc,uvs,rfl,uo,uf,eI⟩)
    · exact absurd (hb.symm.trans hmodL.out) (by decide)
    rw [← HP.out] at uo ⊢;have XI := XH.trans eI;have bM1 := (bM.ext eI).cell 0 rfl;have MLI := MLH.ext eI;clear MLH kx0;go_wp2_with fail;refine (ParamsOf_any mq n mk L' mcss wI MLI).mono ?_;rintro e wJ (⟨hb,_⟩ | ⟨_,vq,vc,vvs,rfl,vo,vf,eJ⟩)
    · exact absurd (hb.symm.trans HM'.out) (by decide)
    have hvl : (parF L').length = P := by rw [HP'.out,HP.out];exact stepX_len _ _ _
    rw [hvl] at vo ⊢;rw [HP'.out] at vf;have ucs := (jbb uo).ext eJ;have vcs := jbb vo;have acs := ((((((jbb ao).ext eF).ext eG).ext eH).ext eI).ext eJ);have scs := ((((((s1.ext eE).ext eF).ext eG).ext eH).ext eI).ext eJ);have XJ := XI.trans eJ;clear uo vo ao s1 MLI hvl bM1;go_wp2_with fail;refine (r8Same_e sq aq P sc ac svs aus (redF (kd : Int) D) _ HRl.out (by omega) scs s2 acs af).mono ?_;rintro e wK ⟨rfl,eK⟩
    have ucK := ucs.ext eK;have vcK := vcs.ext eK;have acK := acs.ext eK;have XK := XJ.trans eK;clear ucs vcs acs scs s2;have hPP : ((P : Int) != (P : Int)) = false := bne_f rfl;go_wp2;have HVL : Hid ((stepX (parF L) (redF (kd : Int) D) z).length = P) := (stepX_len _ _ _).trans HP.out.symm;go_loopw [36] (fun iv wr' => ∃ (j : Nat) (W : World),W = wr' ∧ j ≤ P ∧ iv = .int .i64 (j : Int) ∧ Ext wK wr') (fun iv _ => P - (intOf iv).toNat)
    case atStart => exact ⟨0,_,rfl,by omega,rfl,Ext.refl _⟩
    case round =>
     obtain ⟨j,W,hWe,hj,rfl,hx⟩ := hrel;subst hWe
     by_cases hjl : j < P
     · have hdj : decide ((j : Int) < (P : Int)) = true := by simp;omega
       have hdj2 : decide (j < P) = true := by simp;omega
       have HST := hid (stepX_at (P := parF L) (G := redF (kd : Int) D) (z := z) (i := j) (by rw [← HP.out];exact hjl));have c1 := (ucK.ext hx).ext (Ext.drew W);have c2 := (vcK.ext hx).ext (Ext.drew W);have c3 := (acK.ext hx).ext (Ext.drew W);have HPL := hid HP.out.symm;go_wp2_with fail;refine jae (F := fun _ _ u => u = .bool true) (by kernel_rfl) (by kernel_rfl) (by kernel_rfl) ?_;intro wf hwf
       repeat (first
        | ((first | (refine ja2 rfl ?_) | (refine x_mv rfl rfl rfl ?_) | (refine x_as rfl rfl rfl ?_) | ((with_reducible show gx0);first | (refine x_ldF rfl rfl (fun _ => rfl) rfl (fun _ => rfl) rfl rfl c2 vf HVL.out (by omega) (by omega) ?_;intro r1 g1;rw [Int.toNat_natCast] at g1;have G1 := hid g1;clear g1) | (refine x_ldF rfl rfl (fun _ => rfl) rfl (fun _ => rfl) rfl rfl c1 uf HPL.out (by omega) (by omega) ?_;intro r2 g2;rw [Int.toNat_natCast] at g2;have G2 := hid g2;clear g2) | (refine x_ldF rfl rfl (fun _ => rfl) rfl (fun _ => rfl) rfl rfl c3 af HRl.out (by omega) (by omega) ?_;intro r3 g3;rw [Int.toNat_natCast] at g3;have G3 := hid g3;clear g3)) | ((with_reducible show gx1);refine x_fop rfl rfl rfl rfl rfl ?_;(first | (have zz := G4;intro r5 g5;have G5 := hid g5;clear g5 zz) | (intro r4 g4;have G4 := hid g4;clear g4))) | ((with_reducible show gx12);refine jao (f := 14) (args := #[.float .f32 r1,.float .f32 r5]) rfl rfl Try.func14 rfl (by kernel_rfl) ?_ ?_ ?_;(focus (simp [Act.eval];done));(focus (intro w1 hw1;exact ((same_e r1 r5 w1 (by rw [G1.out,HST.out,G5.out,G4.out,G2.out,G3.out,GZ.out])).mono fun e w3 h => ⟨_,h.1,by rw [h.2];exact Ext.refl _,rfl⟩)));rintro u w3 e3 e4 hu;subst hu));simp only [Act.put,jac,pu1,pu2,pu3,pu4,pu5])
        | (refine jbm rfl fun K hK w1 hw1 => ?_;go_simp;refine hK _ ?_;clear hK K  hw1 w1))
       refine jbn ?_;have hW := (hx.trans (Ext.drew W)).trans hwf;go_wp2;go_roundw
       case rel => exact ⟨j + 1,_,rfl,by omega,by go_num,hW⟩
       case measure => simp [intOf];omega
     · obtain rfl : j = P := by omega
       have kb := (b5.ext (XK.trans hx)).cell 0 rfl;have RP : Rep W (.sl jab) [.slice q n c] L := by rw [HN.out];exact HRP.out.ext (((((e2.trans e25).trans e57).trans e8).trans he).trans (XK.trans hx))
       go_wp2_with fail;have bS := HB.new W #[.slice q n c,.slice q n c] 38;have eS := Ext.alloc W (.cells #[.slice q n c,.slice q n c] 38);refine (lAreInSync.impl_ok [.slice (some ⟨W.heap.size,0,none⟩) 2 2] [(L,()),(L,())] _ (rep_two bS (RP.ext eS)) (fit_two hfL.out)).mono ?_;rw [sync_two hmodL.out];rintro e wZ ⟨rfl,eZ⟩
       go_wp2;go_ret;exact ⟨rfl,((E8.trans (XK.trans hx)).trans eS).trans eZ⟩
end Go.Proofs.Ytmbckkcgiafagaa.lWorkers
namespace Go.Proofs.Ytmbckkcgiafagaa
open Go.RowKit Go.WideShapes Go.Deep Go.ChangeShapes
theorem open_bytes {H : Type} {enc : TypeId × Value → H} {P : Program} {w : World} {base : Nat} {spare : Nat → Bool} {held : Bool} {r : Reach} {b0 : Nat} {t e : TypeId} {v : Value} {d : DataW H} {ps : List MemPlace} (ht : P.underlying t = some (.slice e)) (he : P.underlying e = some (.int .u8)) (hce : P.cellsOf e = 1)
 (hval : Value.okWide P w r b0 t v) (hd : DataW.Trod enc P w base spare held t v d ps) :
 ∃ (p : Option Addr) (n c : Nat) (bs : List Nat),v = .slice p n c ∧ Cs w p (u8s bs) ∧ bs.length = n ∧ ∀ b ∈ bs,b < 256 := by
 obtain ⟨p0,n0,c0,rfl⟩ := okWide_slice ht hval;obtain ⟨fuel,hx⟩ := hd
 cases fuel with
 | zero => simp [DataW.trod] at hx
 | succ k =>
   rcases open_slice ht hx with ⟨hv,_⟩ | ⟨a,ln,cp,m,n',D,Pl,hv,_,hl,hm,hmm,_,hel⟩
   · cases hv
     exact ⟨none,0,0,[],rfl,Cs.nil w none,rfl,fun b hb => by simp at hb⟩
   · have hv : [Value.slice p0 n0 c0] = [.slice (some a) ln cp] := hv
     injection hv with hv _
     injection hv with e1 e2 e3
     subst e1;subst e2;subst e3;have hlm : n0 ≤ m := by rw [hmm];split <;> omega
     obtain ⟨l,hl1,hl2⟩ := choose_list (A := Nat) (R := fun i b => w.cell? (a.add i) = some (.int .u8 (b : Int)) ∧ b < 256) n0 (fun i hi => by
      obtain ⟨cs',h1,h2⟩ := hel i (by omega);obtain ⟨z,rfl,_,hw⟩ := DataW.trod_int he h2;rw [hce,Nat.mul_one] at h1;obtain ⟨_,_,h6⟩ := World.cells?_some h1;have h7 := h6 0 (by omega);rw [Go.Proofs.Ytmbckkcgiafagaa.add_add,Nat.add_zero] at h7;simp only [Lit.wf,Bool.and_eq_true,decide_eq_true_eq] at hw;have hw1 : 0 ≤ z ∧ z ≤ 255 := hw;refine ⟨z.toNat,?_,by omega⟩;rw [h7,Int.toNat_of_nonneg hw1.1];rfl)
     refine ⟨some a,n0,c0,l,rfl,⟨fun i u hu => ?_,fun _ => rfl⟩,hl1,fun b hb => ?_⟩
     · unfold u8s at hu
       rw [List.getElem?_map] at hu
       cases hli : l[i]? with
       | none => rw [hli] at hu;simp at hu
       | some b => rw [hli] at hu;simp at hu;subst hu;exact (hl2 i b hli).1
     · obtain ⟨i,hi,rfl⟩ := List.mem_iff_getElem.1 hb
       exact (hl2 i _ (by simp)).2
end Go.Proofs.Ytmbckkcgiafagaa
