/- A part of the proofs: WthP, ParO, RedOk, SOf, CntP, OutLt, Shp. -/
import Derived.Laws.CopyRow
import Derived.Test.YtmbckkcgiafagaaZ25FnMode
import Derived.Test.YtmbckkcgiafagaaZ11FnMode
import Derived.Test.YtmbckkcgiafagaaZ06FnMode
import Derived.Test.YtmbckkcgiafagaaZ09FnMode
import Derived.Test.YtmbckkcgiafagaaZ10FnMode
import Derived.Test.YtmbckkcgiafagaaTnWhFnMo
import Derived.Test.YtmbckkcgiafagaaZ26FnMode
import Derived.Test.YtmbckkcgiafagaaZ15FnMode
import Derived.Test.YtmbckkcgiafagaaZ07FnMode
import Derived.Test.YtmbckkcgiafagaaZ08FnMode
import Derived.Test.YtmbckkcgiafagaaZ12FnMode
import Derived.Test.YtmbckkcgiafagaaZ22FnMode
set_option linter.unusedSimpArgs false
set_option linter.unusedVariables false
set_option maxRecDepth 100000
set_option maxHeartbeats 16000000
namespace Go.Proofs.Ytmbckkcgiafagaa
open Go.RowKit
theorem Chg.cut {S S' : Nat → Prop} {w w' : World} (h : Chg S' w w') (hs : ∀ b,S' b → S b ∨ w.heap.size ≤ b) : Chg S w w' :=
 ⟨h.os,h.tape,h.output,h.size,fun k hk hn => h.block k hk fun h' => by
  rcases hs k h' with h1 | h1
  · exact hn h1
  · omega⟩
def ParRet (w : World) (L : List jac.T) (e : Ending) (w' : World) : Prop :=
 (modB L = false ∧ e = .returned (.tuple #[.slice none 0 0,.bool false]) ∧ Ext w w') ∨
 (modB L = true ∧ ∃ q c vs,e = .returned (.tuple #[.slice q (parF L).length c,.bool true]) ∧ w'.ownsRow w.heap.size 33 1 (.slice q (parF L).length c) (parF L).length vs ∧ F32s vs (parF L) ∧ Ext w w')
theorem ParamsOf_any (p : Option Addr) (n c : Nat) (L : List jac.T) (css : List (List Value)) (w : World) (hL : Lays w p n css L) : Calls Try.prog 22 #[.agg #[.slice p n c]] w (ParRet w L) := by
 obtain ⟨W0,hW0⟩ : ∃ W0,W0 = w.alloc (.cells #[.slice p n c] 38) := ⟨_,rfl⟩;have E0 : Ext w W0 := by rw [hW0];exact Ext.alloc _ _
 have b0 : HB W0 w.heap.size #[.slice p n c] 38 := by rw [hW0];exact HB.new _ _ _
 have CM := hid (fun W (h : Ext w W) => ValidModel_any p n c L css W hL.len hL.le (hL.cs.ext h) (hL.all.imp fun _ _ => Rep.ext h) hL.size hL.cnt);have PA := hid (fun W (h : Ext w W) hp => params_any p n c L css W hL.len hL.le (hL.cs.ext h) (hL.all.imp fun _ _ => Rep.ext h) hL.size hL.cnt hp);have hb0 := @modB_par L;have s0 : w.heap.size < W0.heap.size := by rw [hW0];simp
 clear hL;unfold ParRet;generalize modB L = m at *;go_enter Try.func22,Try.ntmps22;go_wp2_with fail;rw [← hW0];clear hW0;have g0 := b0.cell 0 rfl
 cases m
 · go_wp2_with fail
   refine (CM.out W0 E0).mono ?_;rintro e w1 ⟨rfl,e1⟩
   go_wp2;go_ret2;exact ⟨rfl,E0.trans e1⟩
 · have hp := hb0 rfl
   go_wp2_with fail;refine (CM.out W0 E0).mono ?_;rintro e w1 ⟨rfl,e1⟩
   have g1 := (b0.ext e1).cell 0 rfl;go_wp2_with fail;refine (PA.out w1 (E0.trans e1) (by omega)).mono ?_;rintro e w2 ⟨q,k,vs,rfl,ho,hf,e2⟩
   have z1 := e1.size;go_wp2;go_ret2;exact ⟨q,k,rfl,vs,jak ho (by omega),hf,(E0.trans e1).trans e2⟩
theorem parF_few {L : List jac.T} (h : ModOk L) : (parF L).length ≤ 432 := by
 have key : ∀ (M : List jac.T),(∀ d ∈ M,(d.2.2.2.1 : List Nat).length ≤ 64 ∧ (d.2.2.2.2.1 : List Nat).length ≤ 8) → (parF M).length ≤ 72 * M.length := by
  intro M
  induction M with
  | nil => intro _;simp [parF]
  | cons d M ih =>
    intro hm;have h1 := hm d (by simp);have h2 := ih fun d hd => hm d (by simp [hd])
    have e : parF (d :: M) = (d.2.2.2.1 ++ d.2.2.2.2.1) ++ parF M := by simp [parF]
    rw [e,List.length_append,List.length_append,List.length_cons];omega
 have h6 := h.few
 have := key L fun d hd => by
  obtain ⟨i,hi,rfl⟩ := List.mem_iff_getElem.1 hd;have hl := h.lay i hi;unfold layD layB at hl;simp only [Bool.and_eq_true,decide_eq_true_eq,jar,Bool.or_eq_true] at hl;obtain ⟨h1,h2,h3,h4,h5,h6⟩ := hl;have hm := mul_bd h2 h3;unfold wCnt at h5;unfold bCnt at h6;refine ⟨?_,?_⟩
  · split at h5
    · omega
    · split at h5
      · omega
      · split at h5 <;> omega
  · split at h6
    · omega
    · split at h6
      · omega
      · split at h6 <;> omega
 omega
end Go.Proofs.Ytmbckkcgiafagaa
namespace Go.Proofs.Ytmbckkcgiafagaa.lStagesOf
open Go.RowKit
theorem _root_.Go.Proofs.Ytmbckkcgiafagaa.GrowOwn.base {w : World} {B B' : Nat} {te : TypeId} {E : Sh} {v : Value} {l : List E.T} {css : List (List Value)} {bss : List (List Nat)} (h : GrowOwn w B te E v l css bss) (hB : B' ≤ B) : GrowOwn w B' te E v l css bss :=
 ⟨jak h.row hB,h.els,h.nodup,fun b hb => ⟨Nat.le_trans hB (h.lo b hb).1,(h.lo b hb).2⟩⟩
end Go.Proofs.Ytmbckkcgiafagaa.lStagesOf
namespace Go.Proofs.Ytmbckkcgiafagaa
open Go.RowKit
theorem RunModel_yes (q tq : Option Addr) (n c R I O tc : Nat) (L : List jac.T) (xs : List Nat) (w : World) (hm : modB L = true) (hn : L.length = n) (hf : Fit (.sl jac) L) (hr : Rep w (.sl jac) [.slice q n c] L) (hI : (I : Int) = inL L 0) (hO : (O : Int) = outL L) (hR : 1 ≤ R ∧ R ≤ 16) (hI1 : 1 ≤ I ∧ I ≤ 16) (hx : xs.length = R * I) (hxb : ∀ x ∈ xs,x < 4294967296) (ht : Rep w (.sl .flt) [.slice tq (R * I) tc] xs) :
 Calls Try.prog 28 #[.agg #[.slice q n c],.agg #[.int .i64 R,.int .i64 I,.slice tq (R * I) tc]] w fun e w' => ∃ (oq : Option Addr) (oc : Nat) (us : List Value),e = .returned (.tuple #[.agg #[.int .i64 R,.int .i64 O,.slice oq (R * O) oc],.bool true]) ∧ (rowsM L xs I R).length = R * O ∧ Cs w' oq us ∧ F32s us (rowsM L xs I R) ∧ R * O ≤ oc ∧ oc ≤ maxLen ∧ Ext w w' := by
 subst hn;have hMO := modOk hm
 have htb : tenB (R : Int) (I : Int) xs.length = true := by
  unfold tenB;rw [jar.2 (show (1 : Int) ≤ R ∧ (R : Int) ≤ 16 by omega),jar.2 (show (1 : Int) ≤ I ∧ (I : Int) ≤ 16 by omega),hx];simp
 have hres : lRunModel.res (L,()) ((R : Int),(I : Int),xs,()) = (((R : Int),(O : Int),rowsM L xs I R,()),true) := by
  unfold lRunModel.res;rw [if_pos ⟨hm,htb,hI⟩];show (((R : Int),outL L,rowsM L xs (I : Int).toNat (R : Int).toNat,()),true) = _;rw [← hO,Int.toNat_natCast,Int.toNat_natCast]
 have f0 : Fit shModel (L,()) := ⟨hf,trivial⟩
 have fi : ∀ z : Nat,z ≤ 100 → Fit .int (z : Int) := fun z hz => by
  have : -9223372036854775808 ≤ (z : Int) ∧ (z : Int) ≤ 9223372036854775807 := by omega
  exact this
 have f1 : Fit jaa ((R : Int),(I : Int),xs,()) := ⟨fi R (by omega),fi I (by omega),hxb,trivial⟩;have hrep1 : Rep w jaa [.int .i64 R,.int .i64 I,.slice tq (R * I) tc] ((R : Int),(I : Int),xs,()) := ⟨[.int .i64 R],_,rfl,rfl,⟨[.int .i64 I],_,rfl,rfl,⟨[.slice tq (R * I) tc],[],rfl,ht,rfl⟩⟩⟩;have CC := lRunModel.impl_ok [.slice q L.length c] (L,()) [.int .i64 R,.int .i64 I,.slice tq (R * I) tc] ((R : Int),(I : Int),xs,()) w ⟨[.slice q L.length c],[],rfl,hr,rfl⟩ hrep1 f0 f1;have hl := rowsM_len (xs := xs) (c := I) hMO hI hO hx R (Nat.le_refl _);simp only [hres,ofCs,Sh.agg,if_true,List.append_nil,List.headD_cons,Bool.false_eq_true,if_false] at CC;refine CC.mono ?_;rintro e w' ⟨cs,bs,rfl,o,_,_,_,e1⟩
 obtain ⟨p,c',us,h1,h2,h3,h4,h5⟩ := jay o.rep;subst h1;dsimp only at h2 h3 h4;rw [hl] at h4;exact ⟨p,c',us,by simp only [ofCs,Sh.agg,if_true,hl],hl,h2,h3,h4,h5,e1⟩
theorem fconv_lt (x : Nat) : jbr .f64 x .f32 < 4294967296 := by
 unfold jbr
 cases h : floatToFloatBits .f64 x .f32 with
 | none => decide
 | some r =>
   show r < 4294967296;unfold floatToFloatBits at h;rw [if_neg (by decide)] at h
   cases hd : FloatKind.f64.decode x with
   | nan s f => rw [hd] at h;simp at h
   | infinity s =>
     rw [hd] at h;have h2 : r = FloatKind.f32.encode (.infinity s) := by simpa using h.symm
     rw [h2];exact write_lt (d := .infinity s) rfl
   | number s m e =>
     rw [hd] at h
     have h2 : r = (Ieee.single).write (.number s m e) := by
      simp only at h
      split at h
      · cases h
      · injection h with h;exact h.symm
     rw [h2];exact write_lt rfl
theorem lt_tab {n : Nat} {f : Nat → Nat} (h : ∀ i,f i < 4294967296) : ∀ x ∈ tab n f,x < 4294967296 := by
 intro x hx;unfold tab at hx;obtain ⟨i,_,rfl⟩ := List.mem_map.1 hx;exact h i
theorem lt_getD {xs : List Nat} (h : ∀ x ∈ xs,x < 4294967296) (i : Nat) : xs.getD i 0 < 4294967296 := by
 by_cases hi : i < xs.length
 · rw [show xs.getD i 0 = xs[i] by simp [hi]];exact h _ (List.getElem_mem hi)
 · rw [List.getD_eq_getElem?_getD,List.getElem?_eq_none (by omega)];decide
theorem lt_lay (d : jac.T) {xs : List Nat} (h : ∀ x ∈ xs,x < 4294967296) : ∀ x ∈ layF d xs,x < 4294967296 := by
 unfold layF runF
 split
 · exact lt_tab fun i => fop_lt _ _ _
 · split
   · exact lt_tab fun i => fop_lt _ _ _
   · refine lt_tab fun i => ?_
     unfold rO
     split
     · exact fop_lt _ _ _
     · split
       · unfold reluF
         split
         · exact lt_getD h i
         · decide
       · split
         · exact fop_lt _ _ _
         · unfold tanF
           split
           · decide
           · split
             · decide
             · exact fconv_lt _
theorem lt_cur (l : List jac.T) {x : List Nat} (h : ∀ y ∈ x,y < 4294967296) : ∀ i,∀ y ∈ curF l x i,y < 4294967296 := by
 intro i;unfold curF;generalize l.take i = t
 induction t generalizing x with
 | nil => exact h
 | cons d t ih => exact ih (lt_lay d h)
theorem fits_1 (a b i zb cc : Nat) (q : Option Addr) (w : World) (ha : a < i) (hb : b < i) (hi : i ≤ 48) (hz : cn .f32 zb = 0) : Calls Try.prog 136 #[.agg #[.int .i64 1,.int .i64 a,.int .i64 b,.float .f32 zb,.int .i64 0,.int .i64 0,.slice q 0 cc],.int .i64 i] w (RetB w true) := by
 have h1 : inB (1 : Int) 0 10 = true := by decide
 have h2 : decide (cn .f32 zb = cn .f32 0) = true := by rw [hz,cn0];rfl
 have h3 : IntKind.i64.wrap ((i : Int) - 1) = (i : Int) - 1 := ja2 _ (by omega) (by omega);have h4 : inB (a : Int) 0 ((i : Int) - 1) = true := jar.2 (by omega);have h5 : inB (b : Int) 0 ((i : Int) - 1) = true := jar.2 (by omega);go_enter Try.func136,Try.ntmps136;go_wp2_with fail;refine (jai 1 0 10 _).mono ?_;rintro e w1 ⟨rfl,rfl⟩
 rw [h1];go_wp2_with fail;refine (ja1 zb 0 _ (by rw [hz];decide) (by rw [cn0];decide)).mono ?_;rintro e w1 ⟨rfl,rfl⟩
 rw [h2];go_wp2_with fail;refine (jai a 0 ((i : Int) - 1) _).mono ?_;rintro e w1 ⟨rfl,rfl⟩
 rw [h4];go_wp2_with fail;refine (jbh 1 _).mono ?_;rintro e w1 ⟨rfl,rfl⟩
 rw [show twoK 1 = true by decide];go_wp2_with fail;refine (jai b 0 ((i : Int) - 1) _).mono ?_;rintro e w1 ⟨rfl,rfl⟩
 rw [h5];go_wp2;go_ret;exact ⟨rfl,Ext.alloc _ _⟩
theorem fits_2 (a b i zb cc : Nat) (q : Option Addr) (w : World) (ha : a < i) (hb : b < i) (hi : i ≤ 48) (hz : cn .f32 zb = 0) : Calls Try.prog 136 #[.agg #[.int .i64 2,.int .i64 a,.int .i64 b,.float .f32 zb,.int .i64 0,.int .i64 0,.slice q 0 cc],.int .i64 i] w (RetB w true) := by
 have h1 : inB (2 : Int) 0 10 = true := by decide
 have h2 : decide (cn .f32 zb = cn .f32 0) = true := by rw [hz,cn0];rfl
 have h3 : IntKind.i64.wrap ((i : Int) - 1) = (i : Int) - 1 := ja2 _ (by omega) (by omega);have h4 : inB (a : Int) 0 ((i : Int) - 1) = true := jar.2 (by omega);have h5 : inB (b : Int) 0 ((i : Int) - 1) = true := jar.2 (by omega);go_enter Try.func136,Try.ntmps136;go_wp2_with fail;refine (jai 2 0 10 _).mono ?_;rintro e w1 ⟨rfl,rfl⟩
 rw [h1];go_wp2_with fail;refine (ja1 zb 0 _ (by rw [hz];decide) (by rw [cn0];decide)).mono ?_;rintro e w1 ⟨rfl,rfl⟩
 rw [h2];go_wp2_with fail;refine (jai a 0 ((i : Int) - 1) _).mono ?_;rintro e w1 ⟨rfl,rfl⟩
 rw [h4];go_wp2_with fail;refine (jbh 2 _).mono ?_;rintro e w1 ⟨rfl,rfl⟩
 rw [show twoK 2 = true by decide];go_wp2_with fail;refine (jai b 0 ((i : Int) - 1) _).mono ?_;rintro e w1 ⟨rfl,rfl⟩
 rw [h5];go_wp2;go_ret;exact ⟨rfl,Ext.alloc _ _⟩
theorem fits_3 (a b i zb cc : Nat) (q : Option Addr) (w : World) (ha : a < i) (hb : b < i) (hi : i ≤ 48) (hz : cn .f32 zb = 0) : Calls Try.prog 136 #[.agg #[.int .i64 3,.int .i64 a,.int .i64 b,.float .f32 zb,.int .i64 0,.int .i64 0,.slice q 0 cc],.int .i64 i] w (RetB w true) := by
 have h1 : inB (3 : Int) 0 10 = true := by decide
 have h2 : decide (cn .f32 zb = cn .f32 0) = true := by rw [hz,cn0];rfl
 have h3 : IntKind.i64.wrap ((i : Int) - 1) = (i : Int) - 1 := ja2 _ (by omega) (by omega);have h4 : inB (a : Int) 0 ((i : Int) - 1) = true := jar.2 (by omega);have h5 : inB (b : Int) 0 ((i : Int) - 1) = true := jar.2 (by omega);go_enter Try.func136,Try.ntmps136;go_wp2_with fail;refine (jai 3 0 10 _).mono ?_;rintro e w1 ⟨rfl,rfl⟩
 rw [h1];go_wp2_with fail;refine (ja1 zb 0 _ (by rw [hz];decide) (by rw [cn0];decide)).mono ?_;rintro e w1 ⟨rfl,rfl⟩
 rw [h2];go_wp2_with fail;refine (jai a 0 ((i : Int) - 1) _).mono ?_;rintro e w1 ⟨rfl,rfl⟩
 rw [h4];go_wp2_with fail;refine (jbh 3 _).mono ?_;rintro e w1 ⟨rfl,rfl⟩
 rw [show twoK 3 = true by decide];go_wp2_with fail;refine (jai b 0 ((i : Int) - 1) _).mono ?_;rintro e w1 ⟨rfl,rfl⟩
 rw [h5];go_wp2;go_ret;exact ⟨rfl,Ext.alloc _ _⟩
theorem fits_4 (a b i zb cc : Nat) (q : Option Addr) (w : World) (ha : a < i) (hb : b < i) (hi : i ≤ 48) (hz : cn .f32 zb = 0) : Calls Try.prog 136 #[.agg #[.int .i64 4,.int .i64 a,.int .i64 b,.float .f32 zb,.int .i64 0,.int .i64 0,.slice q 0 cc],.int .i64 i] w (RetB w true) := by
 have h1 : inB (4 : Int) 0 10 = true := by decide
 have h2 : decide (cn .f32 zb = cn .f32 0) = true := by rw [hz,cn0];rfl
 have h3 : IntKind.i64.wrap ((i : Int) - 1) = (i : Int) - 1 := ja2 _ (by omega) (by omega);have h4 : inB (a : Int) 0 ((i : Int) - 1) = true := jar.2 (by omega);have h5 : inB (b : Int) 0 ((i : Int) - 1) = true := jar.2 (by omega);go_enter Try.func136,Try.ntmps136;go_wp2_with fail;refine (jai 4 0 10 _).mono ?_;rintro e w1 ⟨rfl,rfl⟩
 rw [h1];go_wp2_with fail;refine (ja1 zb 0 _ (by rw [hz];decide) (by rw [cn0];decide)).mono ?_;rintro e w1 ⟨rfl,rfl⟩
 rw [h2];go_wp2_with fail;refine (jai a 0 ((i : Int) - 1) _).mono ?_;rintro e w1 ⟨rfl,rfl⟩
 rw [h4];go_wp2_with fail;refine (jbh 4 _).mono ?_;rintro e w1 ⟨rfl,rfl⟩
 rw [show twoK 4 = true by decide];go_wp2_with fail;refine (jai b 0 ((i : Int) - 1) _).mono ?_;rintro e w1 ⟨rfl,rfl⟩
 rw [h5];go_wp2;go_ret;exact ⟨rfl,Ext.alloc _ _⟩
theorem fits_5 (a i zb cc : Nat) (q : Option Addr) (w : World) (ha : a < i) (hi : i ≤ 48) : Calls Try.prog 136 #[.agg #[.int .i64 5,.int .i64 a,.int .i64 0,.float .f32 zb,.int .i64 0,.int .i64 0,.slice q 0 cc],.int .i64 i] w (RetB w true) := by
 have h1 : inB (5 : Int) 0 10 = true := by decide
 have h3 : IntKind.i64.wrap ((i : Int) - 1) = (i : Int) - 1 := ja2 _ (by omega) (by omega);have h4 : inB (a : Int) 0 ((i : Int) - 1) = true := jar.2 (by omega);go_enter Try.func136,Try.ntmps136;go_wp2_with fail;refine (jai 5 0 10 _).mono ?_;rintro e w1 ⟨rfl,rfl⟩
 rw [h1];go_wp2_with fail;refine (jai a 0 ((i : Int) - 1) _).mono ?_;rintro e w1 ⟨rfl,rfl⟩
 rw [h4];go_wp2_with fail;refine (jbh 5 _).mono ?_;rintro e w1 ⟨rfl,rfl⟩
 rw [show twoK 5 = false by decide];go_wp2;go_ret;exact ⟨rfl,Ext.alloc _ _⟩
theorem fits_6 (a b i zb cc : Nat) (q : Option Addr) (w : World) (ha : a < i) (hb : b < i) (hi : i ≤ 48) (hz : cn .f32 zb = 0) : Calls Try.prog 136 #[.agg #[.int .i64 6,.int .i64 a,.int .i64 b,.float .f32 zb,.int .i64 0,.int .i64 0,.slice q 0 cc],.int .i64 i] w (RetB w true) := by
 have h1 : inB (6 : Int) 0 10 = true := by decide
 have h2 : decide (cn .f32 zb = cn .f32 0) = true := by rw [hz,cn0];rfl
 have h3 : IntKind.i64.wrap ((i : Int) - 1) = (i : Int) - 1 := ja2 _ (by omega) (by omega);have h4 : inB (a : Int) 0 ((i : Int) - 1) = true := jar.2 (by omega);have h5 : inB (b : Int) 0 ((i : Int) - 1) = true := jar.2 (by omega);go_enter Try.func136,Try.ntmps136;go_wp2_with fail;refine (jai 6 0 10 _).mono ?_;rintro e w1 ⟨rfl,rfl⟩
 rw [h1];go_wp2_with fail;refine (ja1 zb 0 _ (by rw [hz];decide) (by rw [cn0];decide)).mono ?_;rintro e w1 ⟨rfl,rfl⟩
 rw [h2];go_wp2_with fail;refine (jai a 0 ((i : Int) - 1) _).mono ?_;rintro e w1 ⟨rfl,rfl⟩
 rw [h4];go_wp2_with fail;refine (jbh 6 _).mono ?_;rintro e w1 ⟨rfl,rfl⟩
 rw [show twoK 6 = true by decide];go_wp2_with fail;refine (jai b 0 ((i : Int) - 1) _).mono ?_;rintro e w1 ⟨rfl,rfl⟩
 rw [h5];go_wp2;go_ret;exact ⟨rfl,Ext.alloc _ _⟩
theorem fits_7 (a i zb cc : Nat) (q : Option Addr) (w : World) (ha : a < i) (hi : i ≤ 48) (hz : cn .f32 zb = 0) : Calls Try.prog 136 #[.agg #[.int .i64 7,.int .i64 a,.int .i64 0,.float .f32 zb,.int .i64 0,.int .i64 0,.slice q 0 cc],.int .i64 i] w (RetB w true) := by
 have h1 : inB (7 : Int) 0 10 = true := by decide
 have h2 : decide (cn .f32 zb = cn .f32 0) = true := by rw [hz,cn0];rfl
 have h3 : IntKind.i64.wrap ((i : Int) - 1) = (i : Int) - 1 := ja2 _ (by omega) (by omega);have h4 : inB (a : Int) 0 ((i : Int) - 1) = true := jar.2 (by omega);go_enter Try.func136,Try.ntmps136;go_wp2_with fail;refine (jai 7 0 10 _).mono ?_;rintro e w1 ⟨rfl,rfl⟩
 rw [h1];go_wp2_with fail;refine (ja1 zb 0 _ (by rw [hz];decide) (by rw [cn0];decide)).mono ?_;rintro e w1 ⟨rfl,rfl⟩
 rw [h2];go_wp2_with fail;refine (jai a 0 ((i : Int) - 1) _).mono ?_;rintro e w1 ⟨rfl,rfl⟩
 rw [h4];go_wp2_with fail;refine (jbh 7 _).mono ?_;rintro e w1 ⟨rfl,rfl⟩
 rw [show twoK 7 = false by decide];go_wp2;go_ret;exact ⟨rfl,Ext.alloc _ _⟩
theorem fits_8 (a i zb cc : Nat) (q : Option Addr) (w : World) (ha : a < i) (hi : i ≤ 48) (hz : cn .f32 zb = 0) : Calls Try.prog 136 #[.agg #[.int .i64 8,.int .i64 a,.int .i64 0,.float .f32 zb,.int .i64 0,.int .i64 0,.slice q 0 cc],.int .i64 i] w (RetB w true) := by
 have h1 : inB (8 : Int) 0 10 = true := by decide
 have h2 : decide (cn .f32 zb = cn .f32 0) = true := by rw [hz,cn0];rfl
 have h3 : IntKind.i64.wrap ((i : Int) - 1) = (i : Int) - 1 := ja2 _ (by omega) (by omega);have h4 : inB (a : Int) 0 ((i : Int) - 1) = true := jar.2 (by omega);go_enter Try.func136,Try.ntmps136;go_wp2_with fail;refine (jai 8 0 10 _).mono ?_;rintro e w1 ⟨rfl,rfl⟩
 rw [h1];go_wp2_with fail;refine (ja1 zb 0 _ (by rw [hz];decide) (by rw [cn0];decide)).mono ?_;rintro e w1 ⟨rfl,rfl⟩
 rw [h2];go_wp2_with fail;refine (jai a 0 ((i : Int) - 1) _).mono ?_;rintro e w1 ⟨rfl,rfl⟩
 rw [h4];go_wp2_with fail;refine (jbh 8 _).mono ?_;rintro e w1 ⟨rfl,rfl⟩
 rw [show twoK 8 = false by decide];go_wp2;go_ret;exact ⟨rfl,Ext.alloc _ _⟩
theorem fits_9 (a i zb cc : Nat) (q : Option Addr) (w : World) (ha : a < i) (hi : i ≤ 48) (hz : cn .f32 zb = 0) : Calls Try.prog 136 #[.agg #[.int .i64 9,.int .i64 a,.int .i64 0,.float .f32 zb,.int .i64 0,.int .i64 0,.slice q 0 cc],.int .i64 i] w (RetB w true) := by
 have h1 : inB (9 : Int) 0 10 = true := by decide
 have h2 : decide (cn .f32 zb = cn .f32 0) = true := by rw [hz,cn0];rfl
 have h3 : IntKind.i64.wrap ((i : Int) - 1) = (i : Int) - 1 := ja2 _ (by omega) (by omega);have h4 : inB (a : Int) 0 ((i : Int) - 1) = true := jar.2 (by omega);go_enter Try.func136,Try.ntmps136;go_wp2_with fail;refine (jai 9 0 10 _).mono ?_;rintro e w1 ⟨rfl,rfl⟩
 rw [h1];go_wp2_with fail;refine (ja1 zb 0 _ (by rw [hz];decide) (by rw [cn0];decide)).mono ?_;rintro e w1 ⟨rfl,rfl⟩
 rw [h2];go_wp2_with fail;refine (jai a 0 ((i : Int) - 1) _).mono ?_;rintro e w1 ⟨rfl,rfl⟩
 rw [h4];go_wp2_with fail;refine (jbh 9 _).mono ?_;rintro e w1 ⟨rfl,rfl⟩
 rw [show twoK 9 = false by decide];go_wp2;go_ret;exact ⟨rfl,Ext.alloc _ _⟩
theorem fits_10 (a i zb cc : Nat) (q : Option Addr) (w : World) (ha : a < i) (hi : i ≤ 48) (hz : cn .f32 zb = 0) : Calls Try.prog 136 #[.agg #[.int .i64 10,.int .i64 a,.int .i64 0,.float .f32 zb,.int .i64 0,.int .i64 0,.slice q 0 cc],.int .i64 i] w (RetB w true) := by
 have h1 : inB (10 : Int) 0 10 = true := by decide
 have h2 : decide (cn .f32 zb = cn .f32 0) = true := by rw [hz,cn0];rfl
 have h3 : IntKind.i64.wrap ((i : Int) - 1) = (i : Int) - 1 := ja2 _ (by omega) (by omega);have h4 : inB (a : Int) 0 ((i : Int) - 1) = true := jar.2 (by omega);go_enter Try.func136,Try.ntmps136;go_wp2_with fail;refine (jai 10 0 10 _).mono ?_;rintro e w1 ⟨rfl,rfl⟩
 rw [h1];go_wp2_with fail;refine (ja1 zb 0 _ (by rw [hz];decide) (by rw [cn0];decide)).mono ?_;rintro e w1 ⟨rfl,rfl⟩
 rw [h2];go_wp2_with fail;refine (jai a 0 ((i : Int) - 1) _).mono ?_;rintro e w1 ⟨rfl,rfl⟩
 rw [h4];go_wp2_with fail;refine (jbh 10 _).mono ?_;rintro e w1 ⟨rfl,rfl⟩
 rw [show twoK 10 = false by decide];go_wp2;go_ret;exact ⟨rfl,Ext.alloc _ _⟩
theorem fits_0 (r c n i zb cc : Nat) (q : Option Addr) (w : World) (hn : n ≤ maxLen) (ht : tenB r c n = true) (hz : cn .f32 zb = 0) : Calls Try.prog 136 #[.agg #[.int .i64 0,.int .i64 0,.int .i64 0,.float .f32 zb,.int .i64 r,.int .i64 c,.slice q n cc],.int .i64 i] w (RetB w true) := by
 have h1 : inB (0 : Int) 0 10 = true := by decide
 have h2 : decide (cn .f32 zb = cn .f32 0) = true := by rw [hz,cn0];rfl
 go_enter Try.func136,Try.ntmps136;go_wp2_with fail;refine (jai 0 0 10 _).mono ?_;rintro e w1 ⟨rfl,rfl⟩
 rw [h1];go_wp2_with fail;refine (ja1 zb 0 _ (by rw [hz];decide) (by rw [cn0];decide)).mono ?_;rintro e w1 ⟨rfl,rfl⟩
 rw [h2];go_wp2_with fail;refine (jbo r c q n cc _ hn).mono ?_;rintro e w1 ⟨rfl,e1⟩
 rw [ht];go_wp2;go_ret;exact ⟨rfl,(Ext.alloc _ _).trans e1⟩
theorem op_valsT {w : World} {cs : List Value} {d : shOp.T} (h : Rep w shOp cs d) : ∃ (zb : Nat) (q : Option Addr) (cc : Nat),cs = [.int .i64 d.1,.int .i64 d.2.1,.int .i64 d.2.2.1,.float .f32 zb,.int .i64 d.2.2.2.2.1.1,.int .i64 d.2.2.2.2.1.2.1,.slice q d.2.2.2.2.1.2.2.1.length cc] ∧ cn .f32 zb = d.2.2.2.1 ∧ d.2.2.2.2.1.2.2.1.length ≤ maxLen := by
 obtain ⟨d1,d2,d3,d4,d5,d6⟩ := d;obtain ⟨_,_,rfl,rfl,_,_,rfl,rfl,_,_,rfl,rfl,_,_,rfl,⟨zb,rfl,hz⟩,ct,_,rfl,ht,rfl⟩ := h;obtain ⟨q,c,us,rfl,_,_,hc,hm⟩ := jay ht;exact ⟨zb,q,c,rfl,hz,Nat.le_trans hc hm⟩
theorem fieldsFit_any {sh : Nat → Nat × Nat} {i : Nat} {o : shOp.T} (h : OpOk sh i o) (hs : ∀ j,j ≤ i → jam (sh j)) (hi : i ≤ 48) (oc : List Value) (w : World) (ho : Rep w shOp oc o) :
 Calls Try.prog 136 #[ofCs shOp oc,.int .i64 i] w (RetB w true) := by
 obtain ⟨zb,q,cc,rfl,hz,hm⟩ := op_valsT ho;simp only [ofCs,Sh.agg,if_true]
 cases h with
 | inp r c xs hl h1 =>
   have h2 := hs i (Nat.le_refl _);rw [h1] at h2;obtain ⟨i1,i2,i3,i4⟩ := h2;refine fits_0 r c _ i zb cc q w hm ?_ hz;unfold tenB;rw [jar.2 (show (1 : Int) ≤ r ∧ (r : Int) ≤ 16 by simp only at i1 i2;omega),jar.2 (show (1 : Int) ≤ c ∧ (c : Int) ≤ 16 by simp only at i3 i4;omega)];simp only [mkOp,tn,hl];simp
 | add a b ha hb h1 h2 => exact fits_1 a b i zb cc q w ha hb hi hz
 | addR a b ha hb h1 h2 => exact fits_2 a b i zb cc q w ha hb hi hz
 | mul a b ha hb h1 h2 => exact fits_3 a b i zb cc q w ha hb hi hz
 | mulR a b ha hb h1 h2 => exact fits_4 a b i zb cc q w ha hb hi hz
 | scl a z ha h2 => exact fits_5 a i zb cc q w ha hi
 | mm a b ha hb h1 h2 => exact fits_6 a b i zb cc q w ha hb hi hz
 | turn a ha h2 => exact fits_7 a i zb cc q w ha hi hz
 | relu a ha h2 => exact fits_8 a i zb cc q w ha hi hz
 | sqr a ha h2 => exact fits_9 a i zb cc q w ha hi hz
 | sum a ha h2 => exact fits_10 a i zb cc q w ha hi hz
end Go.Proofs.Ytmbckkcgiafagaa
