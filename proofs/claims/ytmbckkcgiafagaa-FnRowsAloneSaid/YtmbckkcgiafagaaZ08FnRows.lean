/- A part of the proofs: Fwd5, Fwd6, Fwd7, Fwd8, Fwd10, Bits, Same, Cont, HFloat32SS, Lays. -/
import Derived.Test.YtmbckkcgiafagaaZ07FnRows
import Derived.Test.YtmbckkcgiafagaaZ06FnRows
import Derived.Test.YtmbckkcgiafagaaZ02FnRows
import Derived.Shelf.Abstract
import Derived.Test.YtmbckkcgiafagaaZ03FnRows
set_option linter.unusedSimpArgs false
set_option linter.unusedVariables false
set_option maxRecDepth 100000
set_option maxHeartbeats 16000000
namespace Go.Proofs.Ytmbckkcgiafagaa
open Go.RowKit
def tab (n : Nat) (f : Nat → Nat) : List Nat := (List.range n).map f
theorem tab_len (n : Nat) (f : Nat → Nat) : (tab n f).length = n := by simp [tab]
theorem tab_get {n : Nat} (f : Nat → Nat) {i : Nat} (h : i < n) : (tab n f).getD i 0 = f i := by simp [tab,h]
theorem tab_succ (n : Nat) (f : Nat → Nat) : tab (n + 1) f = tab n f ++ [f n] := by simp [tab,List.range_succ]
def mix (o e : Nat → Nat) (i j : Nat) : Nat := if j < i then o j else e j
theorem tab_mix {n i : Nat} (o e : Nat → Nat) (h : i < n) : (tab n (mix o e i)).set i (o i) = tab n (mix o e (i + 1)) := by
 apply List.ext_getElem?;intro j;unfold tab mix;rw [List.getElem?_set]
 by_cases hj : j < n
 · by_cases hij : i = j
   · subst hij;simp [hj]
   · rw [if_neg hij]
     simp only [List.getElem?_map,List.getElem?_range hj,Option.map_some]
     congr 1
     by_cases h1 : j < i
     · rw [if_pos h1,if_pos (by omega)]
     · rw [if_neg h1,if_neg (by omega)]
 · rw [if_neg (by omega)];simp [hj]
theorem tab_mix0 (n : Nat) (o e : Nat → Nat) : tab n (mix o e 0) = tab n e := by
 unfold tab;apply List.map_congr_left;intro j _;unfold mix;rw [if_neg (by omega)]
theorem tab_mixn (n : Nat) (o e : Nat → Nat) : tab n (mix o e n) = tab n o := by
 unfold tab;apply List.map_congr_left;intro j hj;unfold mix;rw [if_pos (by simpa using hj)]
theorem sumG_congr {f g : Nat → Nat} : ∀ {n : Nat},(∀ i,i < n → f i = g i) → sumG f n = sumG g n
 | 0,_ => rfl
 | n + 1,h => by unfold sumG;rw [sumG_congr (fun i hi => h i (by omega)),h n (by omega)]
theorem F32s.push {us : List Value} {i : Nat} {f : Nat → Nat} {b : Nat} (h : F32s us (tab i f)) (hb : cn .f32 b = f i) : F32s (us ++ [.float .f32 b]) (tab (i + 1) f) := by
 rw [tab_succ];refine h.app ⟨rfl,fun j hj => ?_⟩;have : j = 0 := by simpa using hj
 subst this;exact ⟨b,rfl,by rw [hb];rfl⟩
theorem F32s.put {us : List Value} {n i : Nat} {o e : Nat → Nat} {b : Nat} (h : F32s us (tab n (mix o e i))) (hi : i < n) (hb : cn .f32 b = o i) : F32s (us.set i (.float .f32 b)) (tab n (mix o e (i + 1))) := by
 rw [← tab_mix o e hi];refine ⟨by rw [List.length_set,List.length_set];exact h.1,fun j hj => ?_⟩;rw [List.length_set] at hj
 by_cases hij : i = j
 · subst hij
   refine ⟨b,by rw [List.getElem?_set,if_pos rfl,if_pos (by rw [h.1];exact hj)],?_⟩;rw [hb];rw [tab_len] at hj;simp [tab_len,List.getD_eq_getElem?_getD,List.getElem?_set,hj]
 · obtain ⟨c,h1,h2⟩ := h.2 j hj
   refine ⟨c,by rw [List.getElem?_set,if_neg hij];exact h1,?_⟩;rw [h2,List.getD_eq_getElem?_getD,List.getD_eq_getElem?_getD,List.getElem?_set,if_neg hij]
def sM (xs : List Nat) : Nat := xs.getD (gi xs xs.length) 0
def sE (xs : List Nat) (i : Nat) : Nat := expF (fop .sub .f32 (xs.getD i 0) (sM xs))
def sO (xs : List Nat) (i : Nat) : Nat := fop .quo .f32 (sE xs i) (sumG (sE xs) xs.length)
def softF (xs : List Nat) : List Nat := tab xs.length (sO xs)
theorem sE_pos {xs : List Nat} {i : Nat} (h : i < xs.length) : NonPos (fop .sub .f32 (xs.getD i 0) (sM xs)) := sub_neg (gi_max xs xs.length i h)
theorem retFl_own {w w' : World} {xs : List Nat} {n : Nat} {q : Option Addr} {c : Nat} {e : Ending} {vs : List Value} (hl : xs.length = n) (h : w'.ownsRow w.heap.size 33 1 (.slice q n c) n vs) (hf : F32s vs xs) (he : e = .returned (.slice q n c)) (hx : Ext w w') : RetFl w xs e w' := by
 subst hl;exact ⟨q,c,vs,he,h,hf,hx⟩
theorem exps_any (p : Option Addr) (n c : Nat) (us : List Value) (xs : List Nat) (w : World) (hx : xs.length = n) (h1 : 1 ≤ n) (hn : n ≤ 1073741824) (hp : Cs w p us) (hf : F32s us xs) :
 Calls Try.prog 153 #[.slice p n c] w fun e w' => ∃ (b : Nat) (q : Option Addr) (cq : Nat) (vs : List Value),e = .returned (.tuple #[.float .f32 b,.slice q n cq]) ∧ cn .f32 b = sM xs ∧ w'.ownsRow w.heap.size 33 1 (.slice q n cq) n vs ∧ F32s vs (tab n (sE xs)) ∧ Ext w w' := by
 have X := hid hx;have hM : sM xs = xs.getD (gi xs n) 0 := by unfold sM;rw [hx]
 have HM := hid hM;have hP : ∀ i,i < n → NonPos (fop .sub .f32 (xs.getD i 0) (sM xs)) := fun i hi => sE_pos (by rw [hx];exact hi)
 have C := hid (greatestOf_any p n c us xs w hx h1 (by unfold maxLen;omega) hp hf);have hg := gi_lt xs (j := n) (by omega);clear hx hM;generalize gi xs n = k at *;go_enter Try.func153,Try.ntmps153;go_wp2_with fail;refine C.out.mono ?_;rintro e w1 ⟨rfl,e1⟩
 have k1 := hp.ext e1;go_wp2_with ((with_reducible show gx2);refine wl_ldF rfl rfl rfl rfl (fun _ => rfl) rfl rfl k1 hf X.out (by omega) (by omega) ?_;intro r0 g0;have G0 := hid g0;clear g0);have hb : cn .f32 r0 = sM xs := by have := G0.out;rw [Int.toNat_natCast] at this;rw [this,HM.out]
 have HB2 := hid hb;clear hb;have hstart : (w1.alloc (.cells #[] 33)).ownsRow w.heap.size 33 1 (.slice (some ⟨w1.heap.size,0,none⟩) 0 0) 0 [] := World.ownsRow_made w1 #[] 0 e1.size (by decide) rfl;have e0 := e1.trans (Ext.alloc w1 (.cells #[] 33));go_loopw [5,16] (fun ov iv wr => ∃ (i : Nat) (vs : List Value) (q : Option Addr) (cq : Nat),i ≤ n ∧ iv = .int .i64 i ∧ ov = .slice q i cq ∧ wr.ownsRow w.heap.size 33 1 (.slice q i cq) i vs ∧ Hid (F32s vs (tab i (sE xs))) ∧ Ext w wr) (fun _ iv _ => n - (intOf iv).toNat)
 case atStart => exact ⟨0,[],_,_,by omega,rfl,rfl,hstart,F32s.nil,e0⟩
 case round =>
  clear hstart e0;obtain ⟨i,vs,q,cq,hi,rfl,rfl,own0,HF,he⟩ := hrel;have hB := he.size
  by_cases hlt : i < n
  · have k1 := hp.ext he
    have Hi := hid (hP i hlt);go_wp2_with (first | ((with_reducible show gx2);refine wl_ldF rfl rfl rfl rfl (fun _ => rfl) rfl rfl k1 hf X.out (by omega) (by omega) ?_;intro r1 g1;have G1 := hid g1;clear g1) | ((with_reducible show gx3);refine wl_fop rfl rfl rfl rfl rfl ?_;intro r2 w2 e2 g2;have G2 := hid g2;clear g2));have hv : cn .f32 r2 = fop .sub .f32 (xs.getD i 0) (sM xs) := by rw [G2.out,G1.out,HB2.out,Int.toNat_natCast]
    have HV := hid hv;clear hv;refine (ExpNumber_any r2 _ (by rw [HV.out];exact Hi.out)).mono ?_;rintro e w3 ⟨r3,rfl,g3,e3⟩
    have hv : cn .f32 r3 = sE xs i := by rw [g3,HV.out];rfl
    have HV3 := hid hv;clear hv g3;replace own0 := jaj (jaj own0 e2) e3;replace he := (he.trans e2).trans e3;have hB := he.size;go_wp2_with ((with_reducible show gx9);refine ja3 (u := .float .f32 r3) rfl rfl rfl rfl rfl rfl rfl (fun _ => rfl) (fun _ => rfl) own0 (by unfold maxLen;omega) (by omega) (by omega) ?_;intro g c w4 own4 g4 hg4);go_roundw
    case rel =>
     have own5 : w4.ownsRow w.heap.size 33 1 (.slice (some ⟨g,0,none⟩) (i + 1) c) (i + 1) (vs ++ [.float .f32 r3]) := own4;exact ⟨i + 1,vs ++ [.float .f32 r3],_,_,by omega,by go_num,rfl,own5,by rw [Hid];exact HF.out.push HV3.out,he.grown g4 (fun k hk => jaf own0 k hk)⟩
    case measure => simp [intOf];omega
  · obtain rfl : n = i := by omega
    go_wp2;go_ret2;exact ⟨r0,q,cq,vs,rfl,HB2.out,own0,HF.out,he⟩
theorem softmax_any (p : Option Addr) (n c : Nat) (us : List Value) (xs : List Nat) (w : World) (hx : xs.length = n) (h1 : 1 ≤ n) (hn : n ≤ 1073741824) (hp : Cs w p us) (hf : F32s us xs) :
 Calls Try.prog 122 #[.slice p n c] w (RetFl w (softF xs)) := by
 have X := hid hx;have C := hid (exps_any p n c us xs w hx h1 hn hp hf);clear hx;go_enter Try.func122,Try.ntmps122;go_wp2_with fail;refine C.out.mono ?_;rintro e w1 ⟨b,q,cq,vs,rfl,_,own0,hF,he⟩
 have HF := hid hF;clear hF;go_wp2_with fail;refine (sumOf_any q n cq vs (tab n (sE xs)) _ (tab_len _ _) (by unfold maxLen;omega) (own_Cs own0) HF.out).mono ?_;rintro e w1 ⟨r1,rfl,g1,e1⟩
 have hv : cn .f32 r1 = sumG (sE xs) n := by rw [g1];exact sumG_congr fun i hi => tab_get _ hi
 have HV := hid hv;clear hv g1;replace own0 := jaj own0 e1;replace he := he.trans e1;have hO : ∀ i,sO xs i = fop .quo .f32 (sE xs i) (sumG (sE xs) n) := fun i => by unfold sO;rw [X.out]
 have HO := hid hO;clear hO;go_wp2_with fail;go_loopw [16] (fun iv wr => ∃ (i : Nat) (vs : List Value),i ≤ n ∧ iv = .int .i64 i ∧ wr.ownsRow w.heap.size 33 1 (.slice q n cq) n vs ∧ Hid (F32s vs (tab n (mix (sO xs) (sE xs) i))) ∧ Ext w wr) (fun iv _ => n - (intOf iv).toNat)
 case atStart => exact ⟨0,vs,by omega,rfl,own0,by rw [tab_mix0];exact HF.out,he⟩
 case round =>
  clear own0 he HF;obtain ⟨i,vs,hi,rfl,own0,HF,he⟩ := hrel;have hB := he.size
  by_cases hlt : i < n
  · have k1 := own_Cs own0
    have HL := hid (tab_len n (mix (sO xs) (sE xs) i));have hg : (tab n (mix (sO xs) (sE xs) i)).getD i 0 = sE xs i := by rw [tab_get _ hlt];unfold mix;rw [if_neg (by omega)]
    have HG := hid hg;clear hg;go_wp2_with (first | ((with_reducible show gx2);refine wl_ldF rfl rfl rfl rfl (fun _ => rfl) rfl rfl k1 HF.out HL.out (by omega) (by omega) ?_;intro r2 g2;have G2 := hid g2;clear g2) | ((with_reducible show gx3);refine wl_fop rfl rfl rfl rfl rfl ?_;intro r3 w3 e3 g3;have G3 := hid g3;clear g3;replace own0 := jaj own0 e3;replace he := he.trans e3) | ((with_reducible show gx10);refine wl_idxstore (u := .float .f32 r3) rfl rfl rfl rfl (fun _ => rfl) rfl rfl (fun _ => rfl) rfl own0 (by omega) (by omega) ?_;intro w4 own4 g4));go_roundw
    case rel =>
     refine ⟨i + 1,_,by omega,by go_num,own4,?_,he.grown g4 (fun k hk => jaf own0 k hk)⟩;rw [Int.toNat_natCast];have q2 := G2.out;rw [Int.toNat_natCast,HG.out] at q2;exact HF.out.put hlt (by rw [G3.out,q2,HV.out,HO.out])
    case measure => simp [intOf];omega
  · obtain rfl : n = i := by omega
    rw [tab_mixn] at HF;go_wp2;go_ret;have hS : softF xs = tab n (sO xs) := by unfold softF;rw [X.out]
    rw [hS];exact retFl_own (tab_len _ _) own0 HF.out rfl he
section
variable {P : Program} {w : World} {ops : Array Oper} {rest : List Oper} {o : Oper} {a : Act} {Q : Exit → Act → World → Prop}
theorem wl_stP {e : Nat} [Cell1 P e] {x y : Operand} (hg : o.guard = none) (ho : o.op = .store e x y)
 {p : Option Addr} {n c B i : Nat} {u : Value} (hx : a.eval x = .pointer (some (adr p i))) (hy : a.eval y = u) (hu1 : u.oneCell' = true) {vs : List Value} (hc : w.ownsRow B e 1 (.slice p n c) n vs) (hn : i < n)
 (h : ∀ w',w'.ownsRow B e 1 (.slice p n c) n (vs.set i u) → w.grownBy w' (Value.slice p n c).ownBlock → wpList P ops Q rest (a.put o.dst undef) w') : wpList P ops Q (o :: rest) a w := by
 obtain ⟨g,rfl⟩ := own_some hc (by omega);have hlen : vs.length = n := by have := hc.1;omega
 have hcell : w.cell? (adr (some ⟨g,0,none⟩) i) = some (vs[i]'(by omega)) := by
  rw [jak,hc.cellAt _ (by omega)];simp [hlen,hn]
 have hfr : w.frozen? (adr (some ⟨g,0,none⟩) i) = false := by rw [jak];exact hc.frozenAt _
 have hst := hc.stored i u;rw [← jak] at hst;refine wl_skip hg (w' := w.setCell (adr (some ⟨g,0,none⟩) i) u) ?_ (h _ hst.1 hst.2);simp [execOp,ho,hx,hy,run_store1 hcell hfr hu1]
end
def nM (xs : List Nat) : Nat := fop .quo .f32 (sumG (fun j => xs.getD j 0) xs.length) (floatOfInt .f32 (xs.length : Int))
def nD (xs : List Nat) (i : Nat) : Nat := fop .sub .f32 (xs.getD i 0) (nM xs)
def nR (xs : List Nat) : Nat := rootF (fop .add .f32 (fop .quo .f32 (dotG (nD xs) (nD xs) xs.length) (floatOfInt .f32 (xs.length : Int))) 981467136)
def nO (ws bs xs : List Nat) (i : Nat) : Nat := fop .add .f32 (fop .mul .f32 (fop .quo .f32 (nD xs i) (nR xs)) (ws.getD i 0)) (bs.getD i 0)
def normF (ws bs xs : List Nat) : List Nat := tab xs.length (nO ws bs xs)
theorem cn_near32 (n : Int) : cn .f32 (floatOfInt .f32 n) = floatOfInt .f32 n := cn_nearest .f32 n
theorem cn_eps : cn .f32 981467136 = 981467136 := by decide +kernel
theorem norm_any (k o : Int) (p pw pb : Option Addr) (n c cw cb : Nat) (us uw ub : List Value) (xs ws bs : List Nat) (w : World) (hx : xs.length = n) (hw : ws.length = n) (hb : bs.length = n) (hn : n ≤ 1073741824) (hp : Cs w p us) (hf : F32s us xs)
 (hpw : Cs w pw uw) (hfw : F32s uw ws) (hpb : Cs w pb ub) (hfb : F32s ub bs) :
 Calls Try.prog 123 #[.agg #[.int .i64 k,.int .i64 n,.int .i64 o,.slice pw n cw,.slice pb n cb],.slice p n c] w (RetFl w (normF ws bs xs)) := by
 have X := hid hx;have HW := hid hw;have HB := hid hb;have hS : normF ws bs xs = tab n (nO ws bs xs) := by unfold normF;rw [hx]
 have HS := hid hS;have hM : nM xs = fop .quo .f32 (sumG (fun j => xs.getD j 0) n) (floatOfInt .f32 n) := by unfold nM;rw [hx]
 have HM := hid hM;have hR : nR xs = rootF (fop .add .f32 (fop .quo .f32 (dotG (nD xs) (nD xs) n) (floatOfInt .f32 n)) 981467136) := by unfold nR;rw [hx]
 have HR := hid hR;have eA := Ext.alloc w (.cells #[.int .i64 k,.int .i64 n,.int .i64 o,.slice pw n cw,.slice pb n cb] 41)
 have ca : ∀ (j : Nat) (v : Value),#[Value.int .i64 k,.int .i64 n,.int .i64 o,.slice pw n cw,.slice pb n cb][j]? = some v → (w.alloc (.cells #[.int .i64 k,.int .i64 n,.int .i64 o,.slice pw n cw,.slice pb n cb] 41)).cell? ⟨w.heap.size,j,none⟩ = some v := fun j v h => by
  unfold World.cell?;rw [heap_alloc_new]
  simpa using h
 have f3 := ca 3 _ rfl;have f4 := ca 4 _ rfl;have C := hid (sumOf_any p n c us xs (w.alloc (.cells #[.int .i64 k,.int .i64 n,.int .i64 o,.slice pw n cw,.slice pb n cb] 41)) hx (by unfold maxLen;omega) (hp.ext eA) hf);clear hx hw hb hS hM hR ca;go_enter Try.func123,Try.ntmps123;go_wp2_with fail;refine C.out.mono ?_;rintro e w1 ⟨r0,rfl,g0,e1⟩
 have G0 := hid g0;clear g0;have e0 := eA.trans e1;replace f3 := e1.cell f3;replace f4 := e1.cell f4;clear e1;go_wp2_with ((with_reducible show gx3);refine wl_fop rfl rfl rfl rfl rfl ?_;intro r1 w2 e2 g1;have G1 := hid g1;clear g1);have hv : cn .f32 r1 = nM xs := by rw [G1.out,G0.out,cn_near32,HM.out]
 have HV := hid hv;clear hv;replace e0 := e0.trans e2;replace f3 := e2.cell f3;replace f4 := e2.cell f4;have hstart : (w2.alloc (.cells #[] 33)).ownsRow w2.heap.size 33 1 (.slice (some ⟨w2.heap.size,0,none⟩) 0 0) 0 [] := World.ownsRow_made w2 #[] 0 (Nat.le_refl _) (by decide) rfl;have e9 := Ext.alloc w2 (.cells #[] 33);clear e2;go_loopw [7,22] (fun ov iv wr => ∃ (i : Nat) (vs : List Value) (q : Option Addr) (cq : Nat),i ≤ n ∧ iv = .int .i64 i ∧ ov = .slice q i cq ∧ wr.ownsRow w2.heap.size 33 1 (.slice q i cq) i vs ∧ Hid (F32s vs (tab i (nD xs))) ∧ Ext w2 wr) (fun _ iv _ => n - (intOf iv).toNat)
 case atStart => exact ⟨0,[],_,_,by omega,rfl,rfl,hstart,F32s.nil,e9⟩
 case round =>
  clear hstart e9;obtain ⟨i,vs,q,cq,hi,rfl,rfl,own0,HF,he⟩ := hrel;have hB := he.size
  by_cases hlt : i < n
  · have k1 := hp.ext (e0.trans he)
    go_wp2_with (first | ((with_reducible show gx2);refine wl_ldF rfl rfl rfl rfl (fun _ => rfl) rfl rfl k1 hf X.out (by omega) (by omega) ?_;intro r2 g2;have G2 := hid g2;clear g2) | ((with_reducible show gx3);refine wl_fop rfl rfl rfl rfl rfl ?_;intro r3 w3 e3 g3;have G3 := hid g3;clear g3;replace own0 := jaj own0 e3;replace he := he.trans e3;have hB := he.size) | ((with_reducible show gx9);refine ja3 (u := .float .f32 r3) rfl rfl rfl rfl rfl rfl rfl (fun _ => rfl) (fun _ => rfl) own0 (by unfold maxLen;omega) (by omega) (by omega) ?_;intro g c w4 own4 g4 hg4));have hv : cn .f32 r3 = nD xs i := by rw [G3.out,G2.out,HV.out,Int.toNat_natCast];rfl
    have HV3 := hid hv;clear hv;go_roundw
    case rel =>
     have own5 : w4.ownsRow w2.heap.size 33 1 (.slice (some ⟨g,0,none⟩) (i + 1) c) (i + 1) (vs ++ [.float .f32 r3]) := own4;exact ⟨i + 1,vs ++ [.float .f32 r3],_,_,by omega,by go_num,rfl,own5,by rw [Hid];exact HF.out.push HV3.out,he.grown g4 (fun k hk => jaf own0 k hk)⟩
    case measure => simp [intOf];omega
  · obtain rfl : n = i := by omega
    go_wp2_with fail;refine (dot_any q q n cq n cq vs vs (tab n (nD xs)) (tab n (nD xs)) _ (tab_len _ _) (tab_len _ _) (Nat.le_refl _) (by unfold maxLen;omega) (own_Cs own0) HF.out (own_Cs own0) HF.out).mono ?_;rintro e w3 ⟨r3,rfl,g3,e3⟩
    have hv : cn .f32 r3 = dotG (nD xs) (nD xs) n := by rw [g3];exact dotG_congr (fun i hi => tab_get _ hi) (fun i hi => tab_get _ hi)
    have HV3 := hid hv;clear hv g3;replace own0 := jaj own0 e3;replace he := he.trans e3;go_wp2_with ((with_reducible show gx3);refine wl_fop rfl rfl rfl rfl rfl ?_;first | (have zz := G4;intro r5 w5 e5 g5;have G5 := hid g5;clear g5 zz;replace own0 := jaj own0 e5;replace he := he.trans e5) | (intro r4 w4 e4 g4;have G4 := hid g4;clear g4;replace own0 := jaj own0 e4;replace he := he.trans e4));refine (RootNumber_any r5 _).mono ?_;rintro e w6 ⟨r6,rfl,g6,e6⟩
    have hv : cn .f32 r6 = nR xs := by rw [g6,G5.out,G4.out,HV3.out,cn_near32,cn_eps,HR.out]
    have HV6 := hid hv;clear hv g6;replace own0 := jaj own0 e6;replace he := he.trans e6;go_wp2_with fail;go_loopw [42] (fun iv wr => ∃ (i : Nat) (vs : List Value),i ≤ n ∧ iv = .int .i64 i ∧ wr.ownsRow w2.heap.size 33 1 (.slice q n cq) n vs ∧ Hid (F32s vs (tab n (mix (nO ws bs xs) (nD xs) i))) ∧ Ext w2 wr) (fun iv _ => n - (intOf iv).toNat)
    case atStart => exact ⟨0,vs,by omega,rfl,own0,by rw [tab_mix0];exact HF.out,he⟩
    case round =>
     clear own0 he HF hB;obtain ⟨i,vs,hi,rfl,own0,HF,he⟩ := hrel;have hB := he.size
     by_cases hlt : i < n
     · have HL := hid (tab_len n (mix (nO ws bs xs) (nD xs) i))
       have hg : (tab n (mix (nO ws bs xs) (nD xs) i)).getD i 0 = nD xs i := by rw [tab_get _ hlt];unfold mix;rw [if_neg (by omega)]
       have HG := hid hg;have hsome := (own_Cs own0).isS (by have := own0.1;intro h;rw [h] at this;simp at this;omega);clear hg;go_wp2;replace own0 := jaj own0 (Ext.drew _);replace he := he.trans (Ext.drew _);have k1 := own_Cs own0;have k3 := hpw.ext (e0.trans he);have k4 := hpb.ext (e0.trans he);have k5 := he.cell f3;have k6 := he.cell f4;refine wp_region_xt 21 (F := fun _ _ _ => True) (by kernel_rfl) (by kernel_rfl) (by kernel_rfl) (by kernel_rfl) (by kernel_rfl) ?_;intro wf hwf;simp only [pw1,pw2,pw3,pw4]
       repeat (first
        | ((first | (refine jal rfl ?_) | (refine x_mv rfl rfl rfl ?_) | (refine x_as rfl rfl rfl ?_) | ((with_reducible show gx0);first | (refine x_ldF rfl rfl (fun _ => rfl) rfl (fun _ => rfl) rfl rfl k1 HF.out HL.out (by omega) (by omega) ?_;intro r7 g7;have G7 := hid g7;clear g7) | (refine x_ldF rfl rfl (fun _ => rfl) rfl (fun _ => rfl) rfl rfl k3 hfw HW.out (by omega) (by omega) ?_;intro r8 g8;have G8 := hid g8;clear g8) | (refine x_ldF rfl rfl (fun _ => rfl) rfl (fun _ => rfl) rfl rfl k4 hfb HB.out (by omega) (by omega) ?_;intro r9 g9;have G9 := hid g9;clear g9)) | ((with_reducible show gx5);refine x_idx rfl rfl rfl rfl hsome (by omega) (by omega) ?_) | ((with_reducible show gx1);refine x_fop rfl rfl rfl rfl rfl ?_;first | (have zz := GB;intro rC gC;have GC := hid gC;clear gC zz) | (have zz := GA;intro rB gB;have GB := hid gB;clear gB zz) | (intro rA gA;have GA := hid gA;clear gA)));simp only [Act.put,jad,pu1,pu2,pu3,pu4,pu5])
        | (refine ja2 rfl fun K hK w1 hw1 => ?_;have k0 := hw1.cell (k5);have k1 := hw1.cell (k6);go_simp;refine hK _ ?_;clear hK K k0 k1 hw1 w1))
       refine ja1 ?_;replace own0 := jaj own0 hwf;replace he := he.trans hwf;go_wp2_with ((with_reducible show gx11);refine wl_stP (u := .float .f32 rC) rfl rfl rfl rfl rfl own0 (by omega) ?_;intro w7 own7 g7);go_roundw
       case rel =>
        refine ⟨i + 1,_,by omega,by go_num,own7,?_,he.grown g7 (fun k hk => jaf own0 k hk)⟩;have q7 := G7.out;have q8 := G8.out;have q9 := G9.out;rw [Int.toNat_natCast] at q7 q8 q9;rw [HG.out] at q7;simp only [Int.toNat_natCast,Nat.mul_one,Hid];exact HF.out.put hlt (by rw [GC.out,GB.out,GA.out,q7,q8,q9,HV6.out];rfl)
       case measure => simp [intOf];omega
     · obtain rfl : n = i := by omega
       rw [tab_mixn] at HF;go_wp2;go_ret;rw [HS.out];exact retFl_own (tab_len _ _) (jbe own0 e0.size) HF.out rfl (e0.trans he)
section
variable {P : Program} {w wf : World} {ops : Array Oper} {rest : List Oper} {o : Oper} {a : Act} {Q : Act → Prop} {F : Option Tmp → World → World → Value → Prop}
theorem x_slice {t e s b : Nat} {z : Value} [T : SlTy P t e s z b] {x lo hi : Operand} (hw : Region.wanted o (yielded ops a.tmps) = true) (ho : o.op = .slice t x (some lo) (some hi) none) {p : Option Addr} {n c : Nat} {k1 k2 : IntKind} {li ui : Int} {l u : Nat}
 (hx : a.eval x = .slice p n c) (hlo : a.eval lo = .int k1 li) (hhi : a.eval hi = .int k2 ui) (h1 : li = l) (h2 : ui = u) (h3 : l ≤ u) (h4 : u ≤ c)
 (h : wpX P ops F w wf Q rest (a.put o.dst (.slice (subp p s l c) (u - l) (c - l)))) : wpX P ops F w wf Q (o :: rest) a := by
 subst h1;subst h2;exact x_pure hw (fun w1 _ => by simp [execOp,ho,hx,hlo,hhi,run_slice h3 h4]) h
end
theorem F32s.part {us : List Value} {xs : List Nat} (h : F32s us xs) (l u : Nat) : F32s ((us.take u).drop l) ((xs.take u).drop l) := by
 refine ⟨by simp [h.1],fun i hi => ?_⟩;simp only [List.length_drop,List.length_take] at hi;obtain ⟨b,h1,h2⟩ := h.2 (l + i) (by omega);refine ⟨b,?_,?_⟩
 · rw [List.getElem?_drop,List.getElem?_take_of_lt (by omega)];exact h1
 · rw [h2,List.getD_eq_getElem?_getD,List.getD_eq_getElem?_getD,List.getElem?_drop,List.getElem?_take_of_lt (by omega)]
theorem part_get {xs : List Nat} {l u i : Nat} (h : l + i < u) : ((xs.take u).drop l).getD i 0 = xs.getD (l + i) 0 := by
 rw [List.getD_eq_getElem?_getD,List.getD_eq_getElem?_getD,List.getElem?_drop,List.getElem?_take_of_lt h]
def rO (k : Int) (n : Nat) (ws bs xs : List Nat) (j : Nat) : Nat :=
 if k = 0 then fop .add .f32 (dotG (fun t => ws.getD (j * n + t) 0) (fun t => xs.getD t 0) n) (bs.getD j 0)
 else if k = 1 then reluF (xs.getD j 0)
 else if k = 2 then fop .mul .f32 (ws.getD j 0) (xs.getD j 0)
 else tanF (xs.getD j 0)
def runF (k : Int) (n m : Nat) (ws bs xs : List Nat) : List Nat :=
 if k = 4 then softF xs else if k = 5 then normF ws bs xs else tab m (rO k n ws bs xs)
theorem lay_of {k : Int} {n m nw nb : Nat} (h : layB k n m nw nb = true) : (k = 0 ∨ k = 1 ∨ k = 2 ∨ k = 3 ∨ k = 4 ∨ k = 5) ∧ 1 ≤ n ∧ n ≤ 8 ∧ 1 ≤ m ∧ m ≤ 8 ∧ (k = 0 ∨ n = m) ∧ (k = 0 → nw = n * m ∧ nb = m) ∧ (k = 2 → n = nw) ∧ (k = 5 → n = nw ∧ n = nb) := by
 unfold layB inB at h;simp only [Bool.and_eq_true,decide_eq_true_eq,Bool.or_eq_true] at h;obtain ⟨h1,h2,h3,h4,h5,h6⟩ := h;refine ⟨by omega,by omega,by omega,by omega,by omega,by omega,?_,?_,?_⟩
 · rintro rfl
   simp only [wCnt,bCnt,if_true] at h5 h6;exact ⟨by exact_mod_cast h5,by omega⟩
 · rintro rfl
   simp [wCnt] at h5;omega
 · rintro rfl
   simp [wCnt,bCnt] at h5 h6;omega
theorem run_any (k : Int) (n m nw nb : Nat) (p pw pb : Option Addr) (c cw cb : Nat) (us uw ub : List Value) (xs ws bs : List Nat) (w : World) (hk : layB k n m nw nb = true) (hx : xs.length = n) (hw : ws.length = nw) (hb : bs.length = nb) (hp : Cs w p us) (hf : F32s us xs)
 (hpw : Cs w pw uw) (hfw : F32s uw ws) (hpb : Cs w pb ub) (hfb : F32s ub bs) (hcw : nw ≤ cw) :
 Calls Try.prog 80 #[.agg #[.int .i64 k,.int .i64 n,.int .i64 m,.slice pw nw cw,.slice pb nb cb],.slice p n c] w (RetFl w (runF k n m ws bs xs)) := by
 obtain ⟨h0,h1,h2,h3,h4,h5,h6,h7,h8⟩ := lay_of hk
 by_cases k4 : k = 4
 · subst k4
   have hs : runF 4 n m ws bs xs = softF xs := rfl;rw [hs];have C := hid (fun w1 (e1 : Ext w w1) => softmax_any p n c us xs w1 hx h1 (by omega) (hp.ext e1) hf);clear hx hw hb hk h0 h1 h2 h3 h4 h5 h6 h7 h8 hs;go_enter Try.func80,Try.ntmps80;go_wp2_with ((with_reducible show gx12);refine wl_box (s := jaa) (cs := [.int .i64 4,.int .i64 n,.int .i64 m,.slice pw nw cw,.slice pb nb cb]) rfl rfl rfl rfl (by simp [Value.oneCell']) ?_;intro b v e1 hlo c1;have f0 := c1.cell 0 _ rfl;simp only [jak] at f0);refine (C.out _ e1).mono ?_;rintro e w1 ⟨q,cq,vs,rfl,own0,HF,he⟩
   go_wp2;go_ret;exact ⟨q,cq,vs,rfl,jbe own0 e1.size,HF,e1.trans he⟩
 · by_cases k5 : k = 5
   · subst k5
     obtain ⟨rfl,rfl⟩ := h8 rfl;have hs : runF 5 n m ws bs xs = normF ws bs xs := rfl;rw [hs];have C := hid (fun w1 (e1 : Ext w w1) => norm_any 5 m p pw pb n c cw cb us uw ub xs ws bs w1 hx hw hb (by omega) (hp.ext e1) hf (hpw.ext e1) hfw (hpb.ext e1) hfb);clear hx hw hb hk h0 h1 h2 h3 h4 h5 h6 h7 h8 hs k4;go_enter Try.func80,Try.ntmps80;go_wp2_with (first | ((with_reducible show gx12);refine wl_box (s := jaa) (cs := [.int .i64 5,.int .i64 n,.int .i64 m,.slice pw n cw,.slice pb n cb]) rfl rfl rfl rfl (by simp [Value.oneCell']) ?_;intro b v e1 hlo c1;have f0 := c1.cell 0 _ rfl;simp only [jak] at f0) | ((with_reducible show gx13);refine wl_ldA (s := jaa) (cs := [.int .i64 5,.int .i64 n,.int .i64 m,.slice pw n cw,.slice pb n cb]) rfl rfl rfl c1 rfl ?_;simp only [ofCs,Sh.agg,if_true]));refine (C.out _ e1).mono ?_;rintro e w1 ⟨q,cq,vs,rfl,own0,HF,he⟩
     go_wp2;go_ret;exact ⟨q,cq,vs,rfl,jbe own0 e1.size,HF,e1.trans he⟩
   · have hs : runF k n m ws bs xs = tab m (rO k n ws bs xs) := by unfold runF;rw [if_neg k4,if_neg k5]
     rw [hs];have X := hid hx;have HW := hid hw;have HB := hid hb;have b4 := jbh k4;have b5 := jbh k5;have hk4 : k = 0 ∨ k = 1 ∨ k = 2 ∨ k = 3 := by omega
     have H6 := hid h6;have H7 := hid h7;have H5 := hid h5;clear hx hw hb hk h0 hs h6 h7 h8 h5;go_enter Try.func80,Try.ntmps80;go_wp2_with ((with_reducible show gx12);refine wl_box (s := jaa) (cs := [.int .i64 k,.int .i64 n,.int .i64 m,.slice pw nw cw,.slice pb nb cb]) rfl rfl rfl rfl (by simp [Value.oneCell']) ?_;intro b v e1 hlo c1;have f0 := c1.cell 0 _ rfl;have f2 := c1.cell 2 _ rfl;simp only [jak] at f0 f2;have f2b := (Ext.alloc v (.cells #[] 33)).cell f2);have f1 := c1.cell 1 _ rfl;have f3 := c1.cell 3 _ rfl;have f4 := c1.cell 4 _ rfl;simp only [jak] at f1 f3 f4;have hstart : (v.alloc (.cells #[] 33)).ownsRow v.heap.size 33 1 (.slice (some ⟨v.heap.size,0,none⟩) 0 0) 0 [] := World.ownsRow_made v #[] 0 (Nat.le_refl _) (by decide) rfl;have e9 := Ext.alloc v (.cells #[] 33);replace hp := hp.ext e1;replace hpw := hpw.ext e1;replace hpb := hpb.ext e1;go_loopw [5,22] (fun ov iv wr => ∃ (i : Nat) (vs : List Value) (q : Option Addr) (cq : Nat),i ≤ m ∧ iv = .int .i64 i ∧ ov = .slice q i cq ∧ wr.ownsRow v.heap.size 33 1 (.slice q i cq) i vs ∧ Hid (F32s vs (tab i (rO k n ws bs xs))) ∧ Ext v wr) (fun _ iv _ => m - (intOf iv).toNat)
     case atStart => exact ⟨0,[],_,_,by omega,rfl,rfl,hstart,F32s.nil,e9⟩
     case round =>
      clear hstart e9;obtain ⟨i,vs,q,cq,hi,rfl,rfl,own0,HF,he⟩ := hrel;have hB := he.size
      by_cases hlt : i < m
      · have g0 := he.cell f0
        have g1 := he.cell f1;have g3 := he.cell f3;have g4 := he.cell f4;have hpi := hp.ext he;rcases hk4 with rfl | rfl | rfl | rfl
        · obtain ⟨hnw,hnb⟩ := H6.out rfl
          obtain ⟨L,hL⟩ : ∃ L : Nat,L = i * n := ⟨_,rfl⟩;obtain ⟨H,hH⟩ : ∃ H : Nat,H = L + n := ⟨_,rfl⟩;have hb1 : i * n ≤ 7 * 8 := Nat.mul_le_mul (by omega) (by omega)
          have hb2 : H ≤ nw := by
           rw [hH,hL,hnw,← Nat.succ_mul,Nat.mul_comm n m];exact Nat.mul_le_mul_right _ (by omega)
          have m1 : (i : Int) * (n : Int) = (L : Int) := by rw [hL];push_cast;rfl
          have m2 : ((i : Int) + 1) * (n : Int) = (H : Int) := by rw [Int.add_mul,m1,hH];push_cast;omega
          have l1 : IntKind.i64.wrap ((i : Int) * (n : Int)) = (L : Int) := by rw [m1];exact jat _ (by omega) (by omega)
          have l2 : IntKind.i64.wrap (((i : Int) + 1) * (n : Int)) = (H : Int) := by rw [m2];exact jat _ (by omega) (by omega)
          have l3 : IntKind.i64.wrap ((i : Int) + 1) = (i : Int) + 1 := jat _ (by omega) (by omega);obtain ⟨DV,hDV⟩ : ∃ DV,DV = dotG (fun t => ws.getD (i * n + t) 0) (fun t => xs.getD t 0) n := ⟨_,rfl⟩;have hpw1 := hpw.ext he;have C := hid (fun w1 (e1 : Ext wr w1) => dot_any (subp pw 1 L cw) p (H - L) (cw - L) n c ((uw.take (H * 1)).drop (L * 1)) us ((ws.take (H * 1)).drop (L * 1)) xs w1 (by simp [HW.out];omega) X.out (by omega) (by unfold maxLen;omega) ((hpw1.ext e1).sub (by omega) (by omega)) (hfw.part _ _) (hpi.ext e1) hf)
          have hD2 : dotG (fun j => ((ws.take (H * 1)).drop (L * 1)).getD j 0) (fun j => xs.getD j 0) (H - L) = DV := by
           rw [hDV,show H - L = n by omega];refine dotG_congr (fun t ht => ?_) (fun t ht => rfl);rw [part_get (by omega),← hL,Nat.mul_one]
          rw [hD2] at C;have HD := hid hDV;have HH := hid hH;have HL := hid hL;have hbl : i < nb := by omega
          clear hDV hH hL m1 m2 hD2 hb1 hnw hnb;go_wp2;obtain ⟨F,hF⟩ : ∃ F : Option Tmp → World → Value → Prop,F = fun _ _ u => ∃ b,u = .float .f32 b ∧ cn .f32 b = DV := ⟨_,rfl⟩
          have HFF := hid hF;clear hF;have k0 := Ext.drew wr;replace g1 := k0.cell g1;replace g3 := k0.cell g3;replace g4 := k0.cell g4;have kb := (hpb.ext he).ext k0;refine jab (F := F) (by kernel_rfl) (by kernel_rfl) (by kernel_rfl) ?_;intro wf hwf
          repeat (first
           | ((first | (refine jal rfl ?_) | (refine x_mv rfl rfl rfl ?_) | (refine x_as rfl rfl rfl ?_) | ((with_reducible show wpX _ _ _ _ _ _ (Oper.mk _ (Op.slice _ _ _ _ _) _ _ _ _ :: _) _);refine x_slice rfl rfl rfl rfl rfl (l := L) (u := H) rfl rfl (by have := HH.out;omega) (by omega) ?_) | ((with_reducible show gx0);refine x_ldF rfl rfl (fun _ => rfl) rfl (fun _ => rfl) rfl rfl kb hfb HB.out (by omega) (by omega) ?_;intro r2 q2;have G2 := hid q2;clear q2) | ((with_reducible show gx1);refine x_fop rfl rfl rfl rfl rfl ?_;intro r3 q3;have G3 := hid q3;clear q3) | ((with_reducible show gx6);refine jap (f := 124) (args := #[.slice (subp pw 1 L cw) (H - L) (cw - L),.slice p n c]) rfl rfl Try.func124 rfl (by kernel_rfl) ?_ ?_ ?_;(focus (simp [Act.eval];done));(focus (intro w1 hw1;exact ((C.out w1 (k0.trans hw1)).mono fun e w3 ⟨b,h1,h2,h3⟩ => ⟨_,h1,h3,by rw [HFF.out];exact ⟨b,rfl,h2⟩⟩)));rintro u w3 e3 e4 hu;simp only [HFF.out] at hu;obtain ⟨r1,rfl,q1⟩ := hu;have G1 := hid q1;clear q1));simp only [Act.put,jad,pu1,pu2,pu3,pu4,pu5])
           | (refine ja2 rfl fun K hK w1 hw1 => ?_;have k0 := hw1.cell (g1);have k1 := hw1.cell (g3);have k2 := hw1.cell (g4);go_simp;refine hK _ ?_;clear hK K k0 k1 k2 hw1 w1))
          refine ja1 ?_;have hv : cn .f32 r3 = rO 0 n ws bs xs i := by rw [G3.out,G1.out,G2.out,HD.out,Int.toNat_natCast];rfl
          have HV3 := hid hv;clear hv;replace own0 := jaj (jaj own0 k0) hwf;replace he := (he.trans k0).trans hwf;have hB := he.size;go_wp2_with ((with_reducible show gx9);refine ja3 (u := .float .f32 r3) rfl rfl rfl rfl rfl rfl rfl (fun _ => rfl) (fun _ => rfl) own0 (by unfold maxLen;omega) (by omega) (by omega) ?_;intro g c w4 own4 g4 hg4);go_roundw
          case rel =>
           have own5 : w4.ownsRow v.heap.size 33 1 (.slice (some ⟨g,0,none⟩) (i + 1) c) (i + 1) (vs ++ [.float .f32 r3]) := own4;exact ⟨i + 1,vs ++ [.float .f32 r3],_,_,by omega,by go_num,rfl,own5,by rw [Hid];exact HF.out.push HV3.out,he.grown g4 (fun k hk => jaf own0 k hk)⟩
          case measure => simp [intOf];omega
        · go_wp2_with (first | ((with_reducible show gx2);refine wl_ldF rfl rfl rfl rfl (fun _ => rfl) rfl rfl hpi hf X.out (by omega) (by have := H5.out;omega) ?_;intro r2 q2;have G2 := hid q2;clear q2) | ((with_reducible show gx8);fail))
          refine (relu_any r2 _).mono ?_;rintro e w3 ⟨r3,rfl,q3,e3⟩
          have hv : cn .f32 r3 = rO 1 n ws bs xs i := by rw [q3,G2.out,Int.toNat_natCast];rfl
          have HV3 := hid hv;clear hv q3;replace own0 := jaj own0 e3;replace he := he.trans e3;have hB := he.size;go_wp2_with ((with_reducible show gx9);refine ja3 (u := .float .f32 r3) rfl rfl rfl rfl rfl rfl rfl (fun _ => rfl) (fun _ => rfl) own0 (by unfold maxLen;omega) (by omega) (by omega) ?_;intro g c w4 own4 g4 hg4);go_roundw
          case rel =>
           have own5 : w4.ownsRow v.heap.size 33 1 (.slice (some ⟨g,0,none⟩) (i + 1) c) (i + 1) (vs ++ [.float .f32 r3]) := own4;exact ⟨i + 1,vs ++ [.float .f32 r3],_,_,by omega,by go_num,rfl,own5,by rw [Hid];exact HF.out.push HV3.out,he.grown g4 (fun k hk => jaf own0 k hk)⟩
          case measure => simp [intOf];omega
        · have hwl : i < nw := by have := H5.out;have := H7.out rfl;omega
          have hxl : i < n := by have := H5.out;omega
          have hpw1 := hpw.ext he;go_wp2;have k0 := Ext.drew wr;replace g3 := k0.cell g3;have ka := hpi.ext k0;have kb := hpw1.ext k0;refine jab (F := fun _ _ _ => False) (by kernel_rfl) (by kernel_rfl) (by kernel_rfl) ?_;intro wf hwf
          repeat (first
           | ((first | (refine jal rfl ?_) | (refine x_mv rfl rfl rfl ?_) | (refine x_as rfl rfl rfl ?_) | ((with_reducible show gx0);first | (refine x_ldF rfl rfl (fun _ => rfl) rfl (fun _ => rfl) rfl rfl kb hfw HW.out (by omega) (by omega) ?_;intro r1 q1;have G1 := hid q1;clear q1) | (refine x_ldF rfl rfl (fun _ => rfl) rfl (fun _ => rfl) rfl rfl ka hf X.out (by omega) (by omega) ?_;intro r2 q2;have G2 := hid q2;clear q2)) | ((with_reducible show gx1);refine x_fop rfl rfl rfl rfl rfl ?_;intro r3 q3;have G3 := hid q3;clear q3));simp only [Act.put,jad,pu1,pu2,pu3,pu4,pu5])
           | (refine ja2 rfl fun K hK w1 hw1 => ?_;have k0 := hw1.cell (g3);go_simp;refine hK _ ?_;clear hK K k0 hw1 w1))
          refine ja1 ?_;have hv : cn .f32 r3 = rO 2 n ws bs xs i := by rw [G3.out,G1.out,G2.out,Int.toNat_natCast];rfl
          have HV3 := hid hv;clear hv;replace own0 := jaj (jaj own0 k0) hwf;replace he := (he.trans k0).trans hwf;have hB := he.size;go_wp2_with ((with_reducible show gx9);refine ja3 (u := .float .f32 r3) rfl rfl rfl rfl rfl rfl rfl (fun _ => rfl) (fun _ => rfl) own0 (by unfold maxLen;omega) (by omega) (by omega) ?_;intro g c w4 own4 g4 hg4);go_roundw
          case rel =>
           have own5 : w4.ownsRow v.heap.size 33 1 (.slice (some ⟨g,0,none⟩) (i + 1) c) (i + 1) (vs ++ [.float .f32 r3]) := own4;exact ⟨i + 1,vs ++ [.float .f32 r3],_,_,by omega,by go_num,rfl,own5,by rw [Hid];exact HF.out.push HV3.out,he.grown g4 (fun k hk => jaf own0 k hk)⟩
          case measure => simp [intOf];omega
        · go_wp2_with (first | ((with_reducible show gx2);refine wl_ldF rfl rfl rfl rfl (fun _ => rfl) rfl rfl hpi hf X.out (by omega) (by have := H5.out;omega) ?_;intro r2 q2;have G2 := hid q2;clear q2) | ((with_reducible show gx8);fail))
          refine (TanhNumber_any r2 _).mono ?_;rintro e w3 ⟨r3,rfl,q3,e3⟩
          have hv : cn .f32 r3 = rO 3 n ws bs xs i := by rw [q3,G2.out,Int.toNat_natCast];rfl
          have HV3 := hid hv;clear hv q3;replace own0 := jaj own0 e3;replace he := he.trans e3;have hB := he.size;go_wp2_with ((with_reducible show gx9);refine ja3 (u := .float .f32 r3) rfl rfl rfl rfl rfl rfl rfl (fun _ => rfl) (fun _ => rfl) own0 (by unfold maxLen;omega) (by omega) (by omega) ?_;intro g c w4 own4 g4 hg4);go_roundw
          case rel =>
           have own5 : w4.ownsRow v.heap.size 33 1 (.slice (some ⟨g,0,none⟩) (i + 1) c) (i + 1) (vs ++ [.float .f32 r3]) := own4;exact ⟨i + 1,vs ++ [.float .f32 r3],_,_,by omega,by go_num,rfl,own5,by rw [Hid];exact HF.out.push HV3.out,he.grown g4 (fun k hk => jaf own0 k hk)⟩
          case measure => simp [intOf];omega
      · obtain rfl : m = i := by omega
        go_wp2;go_ret;exact retFl_own (tab_len _ _) (jbe own0 e1.size) HF.out rfl (e1.trans he)
def layF (d : jaa.T) (xs : List Nat) : List Nat := runF d.1 d.2.1.toNat d.2.2.1.toNat d.2.2.2.1 d.2.2.2.2.1 xs
theorem layD_int {d : jaa.T} (h : layD d = true) : (d.2.1.toNat : Int) = d.2.1 ∧ (d.2.2.1.toNat : Int) = d.2.2.1 ∧ d.2.1.toNat ≤ 8 ∧ 1 ≤ d.2.1.toNat ∧ d.2.2.1.toNat ≤ 8 ∧ 1 ≤ d.2.2.1.toNat := by
 unfold layD layB inB at h;simp only [Bool.and_eq_true,decide_eq_true_eq] at h;omega
theorem softF_len (xs : List Nat) : (softF xs).length = xs.length := tab_len _ _
theorem normF_len (ws bs xs : List Nat) : (normF ws bs xs).length = xs.length := tab_len _ _
theorem layF_len {d : jaa.T} (h : layD d = true) {xs : List Nat} (hx : (xs.length : Int) = d.2.1) : ((layF d xs).length : Int) = d.2.2.1 := by
 obtain ⟨a1,a2,_⟩ := layD_int h;have h' : layB d.1 d.2.1.toNat d.2.2.1.toNat d.2.2.2.1.length d.2.2.2.2.1.length = true := by rw [a1,a2];exact h
 obtain ⟨b0,_,_,_,_,b5,_⟩ := lay_of h';unfold layF runF
 split
 · rw [softF_len];rcases b5 with b | b <;> omega
 · split
   · rw [normF_len];rcases b5 with b | b <;> omega
   · rw [tab_len];exact a2
theorem run_lay (cs : List Value) (d : jaa.T) (p : Option Addr) (n c : Nat) (us : List Value) (xs : List Nat) (w : World) (h : Rep w jaa cs d) (hv : layD d = true) (hn : xs.length = n) (hx : (n : Int) = d.2.1) (hp : Cs w p us) (hf : F32s us xs) :
 Calls Try.prog 80 #[.agg cs.toArray,.slice p n c] w (RetFl w (layF d xs)) := by
 obtain ⟨pw,cw,pb,cb,uw,ub,rfl,k1,k2,k3,k4,k5,k6⟩ := lay_nums h;obtain ⟨a1,a2,_⟩ := layD_int hv;have hk : layB d.1 d.2.1.toNat d.2.2.1.toNat d.2.2.2.1.length d.2.2.2.2.1.length = true := by rw [a1,a2];exact hv
 have := run_any d.1 d.2.1.toNat d.2.2.1.toNat _ _ p pw pb c cw cb us uw ub xs d.2.2.2.1 d.2.2.2.2.1 w hk (by omega) rfl rfl hp hf k1 k2 k4 k5 k3;rw [a1,a2,show d.2.1.toNat = n by omega] at this;unfold layF;rw [show d.2.1.toNat = n by omega];exact this
theorem valid_at {w : World} {cs : List Value} {d : jaa.T} (h : Rep w jaa cs d) : Calls Try.prog 77 #[.agg cs.toArray] w (RetB w (layD d)) := by
 obtain ⟨pw,cw,pb,cb,rfl,k1,k2⟩ := lay_vals h;exact ValidLayer_any d.1 d.2.1 d.2.2.1 pw pb _ cw _ cb w k1 k2
theorem out_flts {w w' : World} {xs : List Nat} {e : Ending} {q : Option Addr} {c : Nat} {vs : List Value} (h : w'.ownsRow w.heap.size 33 1 (.slice q xs.length c) xs.length vs) (hf : F32s vs xs) (he : e = .returned (.tuple #[.slice q xs.length c,.bool true])) (hx : Ext w w') : OutOk w (.sl .flt) (xs,true) e w' := by
 have h1 := jbi.2 ⟨q,c,vs,rfl,ownRow_of h,hf,(jay h).1,(jay h).2,rfl⟩;refine ⟨[.slice q xs.length c],_,he,h1,?_,?_,hx⟩
 · cases q <;> simp [jac]
 · intro b hb
   cases q with
   | none => simp [jac] at hb
   | some a => simp [jac] at hb;subst hb;exact jaf h _ rfl
theorem run_extern {P : Program} {f : FuncId} {fn : Func} {e : Array Value → Sem Value} {args : Array Value} {v : Value} {w : World} (hf : P.funcs[f]? = some fn) (hname : (fn.name == "runtime.NumGoroutine") = false) (hb : fn.body.isNone = true)
 (hn : Extern.findNext fn = none) (he : Extern.find fn = some e) (hr : (e args).run P w = .ok v w) : (callFunc f args).run P w = .ok (.value v) w := by
 have hname' : ¬ fn.name = "runtime.NumGoroutine" := by simpa using hname
 have hb' : fn.body = none := by simpa using hb
 simp [callFunc,hf,hname',hb',hn,he,hr,program,Sem.run,mark]
theorem run_f32bits (b : Nat) (w : World) : (callFunc 166 #[.float .f32 b]).run Try.prog w = .ok (.value (.int .u32 b)) w :=
 run_extern (e := Extern.MathFloatBits.float32bits) Try.func166 (by kernel_rfl) (by kernel_rfl) (by kernel_rfl) (by kernel_rfl) rfl
theorem run_f32from (n : Int) (w : World) : (callFunc 170 #[.int .u32 n]).run Try.prog w = .ok (.value (.float .f32 n.toNat)) w :=
 run_extern (e := Extern.MathFloatBits.float32frombits) Try.func170 (by kernel_rfl) (by kernel_rfl) (by kernel_rfl) (by kernel_rfl) rfl
def bitsOf (x : Nat) : Int := wrap64 x
theorem bitsOf_nan : bitsOf (nanB .f32) = 2143289344 := by decide +kernel
theorem l01Bits_any (b : Nat) (w : World) : Calls Try.prog 152 #[.float .f32 b] w fun e w' => e = .returned (.int .i64 (bitsOf (cn .f32 b))) ∧ w = w' := by
 by_cases hn : (FloatKind.f32.decode b).isNaN = true
 · have ha : (FloatKind.f32.format.order b b != some .eq) = true := by rw [order_nan hn];rfl
   go_enter Try.func152,Try.ntmps152;go_wp2;go_ret;exact ⟨by rw [cn_nan hn,bitsOf_nan];rfl,rfl⟩
 · have hn' : (FloatKind.f32.decode b).isNaN = false := by simpa using hn
   have ha : (FloatKind.f32.format.order b b != some .eq) = false := by rw [order_self hn'];rfl
   have hx := run_f32bits b;have hcn := cn_not hn';go_enter Try.func152,Try.ntmps152;go_wp2;go_ret;exact ⟨by rw [hcn];rfl,rfl⟩
theorem widen_some {a : Nat} (na : (FloatKind.f32.decode a).isNaN = false) : floatToFloatBits .f32 a .f64 = some (jba .f32 a .f64) := by
 have ho := fover_widen a;unfold fover at ho;rw [na] at ho;simp only [Bool.not_false,Bool.true_and] at ho;unfold jba
 cases h : floatToFloatBits .f32 a .f64 with
 | none => rw [h] at ho;cases ho
 | some r => rfl
theorem wrap64_neg {r : Nat} (h : r < 18446744073709551616) : decide (wrap64 r < 0) = decide (9223372036854775808 ≤ r) := by
 unfold wrap64;rw [Bool.eq_iff_iff];simp only [decide_eq_true_eq];omega
theorem run_f64bits (b : Nat) (w : World) : (callFunc 95 #[.float .f64 b]).run Try.prog w = .ok (.value (.int .u64 b)) w :=
 run_extern (e := Extern.MathFloatBits.float64bits) Try.func95 (by kernel_rfl) (by kernel_rfl) (by kernel_rfl) (by kernel_rfl) rfl
theorem Signbit_any (r : Nat) (w : World) (hr : r < 18446744073709551616) : Calls Try.prog 54 #[.float .f64 r] w fun e w' => e = .returned (.bool (decide (9223372036854775808 ≤ r))) ∧ w' = w := by
 have hx := run_f64bits r;have hw := wrap64_neg hr;go_enter Try.func54,Try.ntmps54;go_wp2;go_ret;exact ⟨by first | rw [← hw];rfl | skip,rfl⟩
def anyTo (q : Nat → Bool) : Nat → Bool
 | 0 => false
 | n + 1 => anyTo q n || q n
-- the slice type is an instance of Ty
instance elFloat32SS : ElTy Try.prog 25 (.sl .flt) := ⟨by kernel_rfl,by kernel_rfl⟩
structure Lays (w : World) (p : Option Addr) (n : Nat) (css : List (List Value)) (l : List jaa.T) : Prop where
 cs : Cs w p css.flatten
 all : All2 (Rep w jaa) css l
 size : ∀ c ∈ css,c.length = jaa.sz
 one : ∀ c ∈ css,∀ u ∈ c,u.oneCell' = true
 len : l.length = n
 cnt : css.length = n
 fit : ∀ x ∈ l,Fit jaa x
 le : n ≤ maxLen
theorem Lays.ext {w w' : World} {p : Option Addr} {n : Nat} {css : List (List Value)} {l : List jaa.T} (h : Lays w p n css l) (e : Ext w w') : Lays w' p n css l :=
 ⟨h.cs.ext e,h.all.imp fun _ _ => Rep.ext e,h.size,h.one,h.len,h.cnt,h.fit,h.le⟩
theorem lays_of {w : World} {v : Value} {l : List jaa.T} (h : Rep w (.sl jaa) [v] l) (hf : Fit (.sl jaa) l) : ∃ p c css,v = .slice p l.length c ∧ Lays w p l.length css l := by
 obtain ⟨p,c,css,h1,a2,a3,a4,a5⟩ := h
 cases h1
 refine ⟨p,c,css,rfl,a2,a5,fun c hc => ?_,fun c hc => ?_,rfl,a5.length,hf,Nat.le_trans a3 a4⟩
 · obtain ⟨i,hi,rfl⟩ := List.mem_iff_getElem.1 hc;obtain ⟨_,h⟩ := a5.get' i (by rw [← a5.length];exact hi);exact h.size
 · obtain ⟨i,hi,rfl⟩ := List.mem_iff_getElem.1 hc;obtain ⟨_,h⟩ := a5.get' i (by rw [← a5.length];exact hi);exact h.one
end Go.Proofs.Ytmbckkcgiafagaa
