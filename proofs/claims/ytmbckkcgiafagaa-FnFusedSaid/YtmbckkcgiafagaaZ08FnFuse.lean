/- A part of the proofs: Fwd4, Fwd5, Fwd6, Fwd7. -/
import Derived.Test.YtmbckkcgiafagaaZ06FnFuse
import Derived.Test.YtmbckkcgiafagaaZ07FnFuse
set_option linter.unusedSimpArgs false
set_option linter.unusedVariables false
set_option maxRecDepth 100000
set_option maxHeartbeats 16000000
namespace Go.Proofs.Ytmbckkcgiafagaa
open Go.RowKit Rnd
def rootF (x : Nat) : Nat := jam .f64 (fsqrt .f64 (jam .f32 x .f64)) .f32
theorem RootNumber_any (b : Nat) (w : World) : Calls Try.prog 154 #[.float .f32 b] w (RF .f32 w (rootF (cn .f32 b))) := by
 have H := hid (sqrt_over (cn .f32 b));go_enter Try.func154,Try.ntmps154;go_wp2_with (first | ((with_reducible show gx4);refine wl_conv rfl rfl rfl (by kernel_rfl) jax (jbd _) ?_;intro r0 w0 e0 g0;have G0 := hid g0;clear g0) | ((with_reducible show gx8);fail));refine (Sqrt_any r0 _).mono ?_;rintro e w1 ⟨b1,rfl,g1,e1⟩
 have G1 := hid g1;clear g1;go_wp2_with ((with_reducible show gx4);refine wl_conv rfl rfl rfl (by kernel_rfl) jaq (by rw [G1.out,G0.out];exact H.out) ?_;intro r2 w2 e2 g2;have G2 := hid g2;clear g2);go_ret;exact ⟨r2,rfl,by rw [G2.out,G1.out,G0.out];rfl,(e0.trans e1).trans e2⟩
/-! Greatest numbers. -/
def rk (x : Nat) : Int := match FloatKind.f32.decode x with
 | .infinity s => sg s (pw 5000)
 | .number s m e => sg s (cnt m e)
 | .nan _ _ => 0
theorem rk_lt {s : Bool} {m : Nat} {e : Int} {x : Nat} (h : Ieee.single.read x = .number s m e) : cnt m e < pw 5000 := by
 obtain ⟨h1,h2,h3⟩ := sgl_read h;unfold cnt
 calc m * 2 ^ (e + 4000).toNat < 2 ^ 24 * 2 ^ (e + 4000).toNat := Nat.mul_lt_mul_of_pos_right (by omega) (Nat.two_pow_pos _)
  _ = 2 ^ (24 + (e + 4000).toNat) := by rw [← Nat.pow_add]
  _ ≤ pw 5000 := pw_le (by omega)
theorem sg_lt (s : Bool) {v P : Nat} (h : v < P) : - (P : Int) < sg s v ∧ sg s v < P := by unfold sg;cases s <;> simp <;> omega
theorem order_rk {x y : Nat} (hx : (FloatKind.f32.decode x).isNaN = false) (hy : (FloatKind.f32.decode y).isNaN = false) : FloatKind.f32.format.order x y = some (compare (rk x) (rk y)) := by
 have hp : (0 : Int) < ((pw 5000 : Nat) : Int) := Int.natCast_pos.2 (pw_pos _)
 cases ex : FloatKind.f32.decode x with
 | nan s f => rw [ex] at hx;cases hx
 | infinity s =>
   have rx : rk x = sg s (pw 5000) := by unfold rk;rw [ex]
   cases ey : FloatKind.f32.decode y with
   | nan s f => rw [ey] at hy;cases hy
   | infinity t =>
     have ry : rk y = sg t (pw 5000) := by unfold rk;rw [ey]
     show (FloatKind.f32.decode x).order (FloatKind.f32.decode y) = _;rw [ex,ey,rx,ry];generalize pw 5000 = P at *;unfold sg
     cases s <;> cases t
     · exact congrArg some (Eq.trans (b := .eq) rfl (Int.compare_eq_eq.2 rfl).symm)
     · exact congrArg some (Eq.trans (b := .gt) rfl (Int.compare_eq_gt.2 (by simp;omega)).symm)
     · exact congrArg some (Eq.trans (b := .lt) rfl (Int.compare_eq_lt.2 (by simp;omega)).symm)
     · exact congrArg some (Eq.trans (b := .eq) rfl (Int.compare_eq_eq.2 rfl).symm)
   | number t m e =>
     have ry : rk y = sg t (cnt m e) := by unfold rk;rw [ey]
     have hb := sg_lt t (rk_lt (x := y) ey);show (FloatKind.f32.decode x).order (FloatKind.f32.decode y) = _;rw [ex,ey,rx,ry];generalize sg t (cnt m e) = Y at *;generalize pw 5000 = P at *;show some (if s then _ else _) = _
     congr 1
     unfold sg
     cases s
     · exact (Int.compare_eq_gt.2 (by simp;omega)).symm
     · exact (Int.compare_eq_lt.2 (by simp;omega)).symm
 | number s m e =>
   have rx : rk x = sg s (cnt m e) := by unfold rk;rw [ex]
   have fx : Fin Ieee.single x s (cnt m e) := ⟨m,e,ex,by have := (sgl_read (x := x) ex).2.1;rw [show (Ieee.single).leastPlace = -149 from by decide];omega,rfl⟩
   cases ey : FloatKind.f32.decode y with
   | nan s f => rw [ey] at hy;cases hy
   | infinity t =>
     have ry : rk y = sg t (pw 5000) := by unfold rk;rw [ey]
     have hb := sg_lt s (rk_lt (x := x) ex);show (FloatKind.f32.decode x).order (FloatKind.f32.decode y) = _;rw [ex,ey,rx,ry];generalize sg s (cnt m e) = X at *;generalize pw 5000 = P at *;show some (if t then _ else _) = _
     congr 1
     unfold sg
     cases t
     · exact (Int.compare_eq_lt.2 (by simp;omega)).symm
     · exact (Int.compare_eq_gt.2 (by simp;omega)).symm
   | number t m' e' =>
     have ry : rk y = sg t (cnt m' e') := by unfold rk;rw [ey]
     have fy : Fin Ieee.single y t (cnt m' e') := ⟨m',e',ey,by have := (sgl_read (x := y) ey).2.1;rw [show (Ieee.single).leastPlace = -149 from by decide];omega,rfl⟩;rw [rx,ry];exact fin_order ok_single fx fy
theorem fgt_nan_l {x y : Nat} (h : (FloatKind.f32.decode x).isNaN = true) : fgt .f32 x y = false := by
 unfold fgt;rw [order_nan h];rfl
theorem fgt_nan_r {x y : Nat} (h : (FloatKind.f32.decode y).isNaN = true) : fgt .f32 x y = false := by
 have : FloatKind.f32.format.order x y = none := by
  show (FloatKind.f32.decode x).order (FloatKind.f32.decode y) = _;exact order_nan_r h
 unfold fgt;rw [this];rfl
theorem fgt_rk {x y : Nat} (hx : (FloatKind.f32.decode x).isNaN = false) (hy : (FloatKind.f32.decode y).isNaN = false) : fgt .f32 x y = decide (rk y < rk x) := by
 unfold fgt;rw [order_rk hx hy]
 by_cases h : rk y < rk x
 · rw [Int.compare_eq_gt.2 h,decide_eq_true h];rfl
 · rw [decide_eq_false h]
   rcases Int.lt_or_eq_of_le (Int.not_lt.1 h) with h' | h'
   · rw [Int.compare_eq_lt.2 h'];rfl
   · rw [Int.compare_eq_eq.2 h'];rfl
theorem fgt_trans {x y z : Nat} (h : fgt .f32 x y = true) (k : fgt .f32 y z = true) : fgt .f32 x z = true := by
 cases hx : (FloatKind.f32.decode x).isNaN
 · cases hy : (FloatKind.f32.decode y).isNaN
   · cases hz : (FloatKind.f32.decode z).isNaN
     · rw [fgt_rk hx hy] at h
       rw [fgt_rk hy hz] at k;rw [fgt_rk hx hz];have h := of_decide_eq_true h;have k := of_decide_eq_true k;exact decide_eq_true (by omega)
     · rw [fgt_nan_r hz] at k;cases k
   · rw [fgt_nan_r hy] at h;cases h
 · rw [fgt_nan_l hx] at h;cases h
theorem fgt_self (x : Nat) : fgt .f32 x x = false := by
 cases hx : (FloatKind.f32.decode x).isNaN
 · rw [fgt_rk hx hx];exact decide_eq_false (Int.lt_irrefl _)
 · exact fgt_nan_l hx
def gi (xs : List Nat) : Nat → Nat
 | 0 => 0
 | j + 1 => if fgt .f32 (xs.getD j 0) (xs.getD (gi xs j) 0) then j else gi xs j
theorem gi_lt (xs : List Nat) : ∀ {j : Nat},0 < j → gi xs j < j
 | 1,_ => by
   show (if fgt .f32 (xs.getD 0 0) (xs.getD 0 0) then 0 else 0) < 1
   split <;> omega
 | j + 2,_ => by
   have := gi_lt xs (j := j + 1) (by omega);have e : gi xs (j + 1 + 1) = if fgt .f32 (xs.getD (j + 1) 0) (xs.getD (gi xs (j + 1)) 0) then j + 1 else gi xs (j + 1) := rfl;rw [e]
   split <;> omega
theorem gi_max (xs : List Nat) : ∀ (j i : Nat),i < j → fgt .f32 (xs.getD i 0) (xs.getD (gi xs j) 0) = false
 | 0,_,h => by omega
 | j + 1,i,h => by
   have e : gi xs (j + 1) = if fgt .f32 (xs.getD j 0) (xs.getD (gi xs j) 0) then j else gi xs j := rfl
   cases hc : fgt .f32 (xs.getD j 0) (xs.getD (gi xs j) 0)
   · rw [e,hc]
     by_cases hij : i = j
     · subst hij;exact hc
     · exact gi_max xs j i (by omega)
   · rw [e,hc,if_pos rfl]
     by_cases hij : i = j
     · subst hij;exact fgt_self _
     · cases h2 : fgt .f32 (xs.getD i 0) (xs.getD j 0)
       · rfl
       · have := fgt_trans h2 hc
         rw [gi_max xs j i (by omega)] at this;cases this
theorem gt_eq (a b : Nat) : (FloatKind.f32.format.order a b == some .gt) = fgt .f32 (cn .f32 a) (cn .f32 b) := by rw [fgt_cn];rfl
theorem greatestOf_any (p : Option Addr) (n c : Nat) (us : List Value) (xs : List Nat) (w : World) (hx : xs.length = n) (h1 : 1 ≤ n) (hn : n ≤ maxLen) (hp : Cs w p us) (hf : F32s us xs) :
 Calls Try.prog 167 #[.slice p n c] w fun e w' => e = .returned (.int .i64 (gi xs n)) ∧ Ext w w' := by
 unfold maxLen at hn;have X := hid hx;clear hx;go_enter Try.func167,Try.ntmps167;go_wp2;go_loopw [3,8] (fun kv iv wr => ∃ (i : Nat),i ≤ n ∧ iv = .int .i64 i ∧ kv = .int .i64 (gi xs i) ∧ Ext w wr) (fun _ iv _ => n - (intOf iv).toNat)
 case atStart => exact ⟨0,by omega,rfl,rfl,Ext.refl _⟩
 case round =>
  obtain ⟨i,hi,rfl,rfl,he⟩ := hrel
  by_cases hlt : i < n
  · have k1 := hp.ext he
    have hg : gi xs i < n := by
     rcases Nat.eq_zero_or_pos i with h | h
     · subst h;show 0 < n;omega
     · have := gi_lt xs h;omega
    have hs : gi xs (i + 1) = if fgt .f32 (xs.getD i 0) (xs.getD (gi xs i) 0) then i else gi xs i := rfl;have HS := hid hs;clear hs;generalize gi xs i = k at *;go_wp2_with ((with_reducible show gx2);refine wl_ldF rfl rfl rfl rfl (fun _ => rfl) rfl rfl k1 hf X.out (by omega) (by omega) ?_;first | (have zz := G1;intro r2 g2;have G2 := hid g2;clear g2 zz) | (intro r1 g1;have G1 := hid g1;clear g1))
    all_goals go_roundw
    all_goals first
     | (case rel =>
      refine ⟨i + 1,by omega,by go_num,?_,he⟩
      rename_i hc
      have q1 := G1.out;have q2 := G2.out;simp only [Int.toNat_natCast] at q1 q2;have hh := gt_eq r1 r2;rw [q1,q2] at hh;rw [HS.out]
      first
       | (rw [hc] at hh;rw [← hh];rfl)
       | (rw [decide_eq_true hc] at hh;rw [← hh];rfl))
     | (case measure => simp [intOf];omega)
  · obtain rfl : i = n := by omega
    go_wp2;go_ret;exact ⟨rfl,he⟩
end Go.Proofs.Ytmbckkcgiafagaa
namespace Go.Proofs.Ytmbckkcgiafagaa
open Go.RowKit
def tab (n : Nat) (f : Nat → Nat) : List Nat := (List.range n).map f
theorem jbg (n : Nat) (f : Nat → Nat) : (tab n f).length = n := by simp [tab]
theorem tab_get {n : Nat} (f : Nat → Nat) {i : Nat} (h : i < n) : (tab n f).getD i 0 = f i := by simp [tab,h]
theorem tab_succ (n : Nat) (f : Nat → Nat) : tab (n + 1) f = tab n f ++ [f n] := by simp [tab,List.range_succ]
def mix (o e : Nat → Nat) (i j : Nat) : Nat := if j < i then o j else e j
theorem tab_mix {n i : Nat} (o e : Nat → Nat) (h : i < n) : (tab n (mix o e i)).set i (o i) = tab n (mix o e (i + 1)) := by
 apply List.ext_getElem?;intro j;unfold tab mix;rw [List.getElem?_set]
 by_cases hj : j < n
 · by_cases hij : i = j
   · subst hij;simp [hj]
   · rw [if_neg hij]
     simp only [List.getElem?_map,List.getElem?_range hj,Option.map_some]
     congr 1
     by_cases h1 : j < i
     · rw [if_pos h1,if_pos (by omega)]
     · rw [if_neg h1,if_neg (by omega)]
 · rw [if_neg (by omega)];simp [hj]
theorem tab_mix0 (n : Nat) (o e : Nat → Nat) : tab n (mix o e 0) = tab n e := by
 unfold tab;apply List.map_congr_left;intro j _;unfold mix;rw [if_neg (by omega)]
theorem tab_mixn (n : Nat) (o e : Nat → Nat) : tab n (mix o e n) = tab n o := by
 unfold tab;apply List.map_congr_left;intro j hj;unfold mix;rw [if_pos (by simpa using hj)]
theorem sumG_congr {f g : Nat → Nat} : ∀ {n : Nat},(∀ i,i < n → f i = g i) → sumG f n = sumG g n
 | 0,_ => rfl
 | n + 1,h => by unfold sumG;rw [sumG_congr (fun i hi => h i (by omega)),h n (by omega)]
theorem F32s.push {us : List Value} {i : Nat} {f : Nat → Nat} {b : Nat} (h : F32s us (tab i f)) (hb : cn .f32 b = f i) : F32s (us ++ [.float .f32 b]) (tab (i + 1) f) := by
 rw [tab_succ];refine h.app ⟨rfl,fun j hj => ?_⟩;have : j = 0 := by simpa using hj
 subst this;exact ⟨b,rfl,by rw [hb];rfl⟩
theorem F32s.put {us : List Value} {n i : Nat} {o e : Nat → Nat} {b : Nat} (h : F32s us (tab n (mix o e i))) (hi : i < n) (hb : cn .f32 b = o i) : F32s (us.set i (.float .f32 b)) (tab n (mix o e (i + 1))) := by
 rw [← tab_mix o e hi];refine ⟨by rw [List.length_set,List.length_set];exact h.1,fun j hj => ?_⟩;rw [List.length_set] at hj
 by_cases hij : i = j
 · subst hij
   refine ⟨b,by rw [List.getElem?_set,if_pos rfl,if_pos (by rw [h.1];exact hj)],?_⟩;rw [hb];rw [jbg] at hj;simp [jbg,List.getD_eq_getElem?_getD,List.getElem?_set,hj]
 · obtain ⟨c,h1,h2⟩ := h.2 j hj
   refine ⟨c,by rw [List.getElem?_set,if_neg hij];exact h1,?_⟩;rw [h2,List.getD_eq_getElem?_getD,List.getD_eq_getElem?_getD,List.getElem?_set,if_neg hij]
def sM (xs : List Nat) : Nat := xs.getD (gi xs xs.length) 0
def sE (xs : List Nat) (i : Nat) : Nat := expF (fop .sub .f32 (xs.getD i 0) (sM xs))
def sO (xs : List Nat) (i : Nat) : Nat := fop .quo .f32 (sE xs i) (sumG (sE xs) xs.length)
def softF (xs : List Nat) : List Nat := tab xs.length (sO xs)
theorem sE_pos {xs : List Nat} {i : Nat} (h : i < xs.length) : NonPos (fop .sub .f32 (xs.getD i 0) (sM xs)) := sub_neg (gi_max xs xs.length i h)
theorem retFl_own {w w' : World} {xs : List Nat} {n : Nat} {q : Option Addr} {c : Nat} {e : Ending} {vs : List Value} (hl : xs.length = n) (h : w'.ownsRow w.heap.size 33 1 (.slice q n c) n vs) (hf : F32s vs xs) (he : e = .returned (.slice q n c)) (hx : Ext w w') : RetFl w xs e w' := by
 subst hl;exact ⟨q,c,vs,he,h,hf,hx⟩
theorem exps_any (p : Option Addr) (n c : Nat) (us : List Value) (xs : List Nat) (w : World) (hx : xs.length = n) (h1 : 1 ≤ n) (hn : n ≤ 1073741824) (hp : Cs w p us) (hf : F32s us xs) :
 Calls Try.prog 153 #[.slice p n c] w fun e w' => ∃ (b : Nat) (q : Option Addr) (cq : Nat) (vs : List Value),e = .returned (.tuple #[.float .f32 b,.slice q n cq]) ∧ cn .f32 b = sM xs ∧ w'.ownsRow w.heap.size 33 1 (.slice q n cq) n vs ∧ F32s vs (tab n (sE xs)) ∧ Ext w w' := by
 have X := hid hx;have hM : sM xs = xs.getD (gi xs n) 0 := by unfold sM;rw [hx]
 have HM := hid hM;have hP : ∀ i,i < n → NonPos (fop .sub .f32 (xs.getD i 0) (sM xs)) := fun i hi => sE_pos (by rw [hx];exact hi)
 have C := hid (greatestOf_any p n c us xs w hx h1 (by unfold maxLen;omega) hp hf);have hg := gi_lt xs (j := n) (by omega);clear hx hM;generalize gi xs n = k at *;go_enter Try.func153,Try.ntmps153;go_wp2_with fail;refine C.out.mono ?_;rintro e w1 ⟨rfl,e1⟩
 have k1 := hp.ext e1;go_wp2_with ((with_reducible show gx2);refine wl_ldF rfl rfl rfl rfl (fun _ => rfl) rfl rfl k1 hf X.out (by omega) (by omega) ?_;intro r0 g0;have G0 := hid g0;clear g0);have hb : cn .f32 r0 = sM xs := by have := G0.out;rw [Int.toNat_natCast] at this;rw [this,HM.out]
 have HB2 := hid hb;clear hb;have hstart : (w1.alloc (.cells #[] 33)).ownsRow w.heap.size 33 1 (.slice (some ⟨w1.heap.size,0,none⟩) 0 0) 0 [] := World.ownsRow_made w1 #[] 0 e1.size (by decide) rfl;have e0 := e1.trans (Ext.alloc w1 (.cells #[] 33));go_loopw [5,16] (fun ov iv wr => ∃ (i : Nat) (vs : List Value) (q : Option Addr) (cq : Nat),i ≤ n ∧ iv = .int .i64 i ∧ ov = .slice q i cq ∧ wr.ownsRow w.heap.size 33 1 (.slice q i cq) i vs ∧ Hid (F32s vs (tab i (sE xs))) ∧ Ext w wr) (fun _ iv _ => n - (intOf iv).toNat)
 case atStart => exact ⟨0,[],_,_,by omega,rfl,rfl,hstart,F32s.nil,e0⟩
 case round =>
  clear hstart e0;obtain ⟨i,vs,q,cq,hi,rfl,rfl,own0,HF,he⟩ := hrel;have hB := he.size
  by_cases hlt : i < n
  · have k1 := hp.ext he
    have Hi := hid (hP i hlt);go_wp2_with (first | ((with_reducible show gx2);refine wl_ldF rfl rfl rfl rfl (fun _ => rfl) rfl rfl k1 hf X.out (by omega) (by omega) ?_;intro r1 g1;have G1 := hid g1;clear g1) | ((with_reducible show gx3);refine wl_fop rfl rfl rfl rfl rfl ?_;intro r2 w2 e2 g2;have G2 := hid g2;clear g2));have hv : cn .f32 r2 = fop .sub .f32 (xs.getD i 0) (sM xs) := by rw [G2.out,G1.out,HB2.out,Int.toNat_natCast]
    have HV := hid hv;clear hv;refine (ExpNumber_any r2 _ (by rw [HV.out];exact Hi.out)).mono ?_;rintro e w3 ⟨r3,rfl,g3,e3⟩
    have hv : cn .f32 r3 = sE xs i := by rw [g3,HV.out];rfl
    have HV3 := hid hv;clear hv g3;replace own0 := jak (jak own0 e2) e3;replace he := (he.trans e2).trans e3;have hB := he.size;go_wp2_with ((with_reducible show gx9);refine ja4 (u := .float .f32 r3) rfl rfl rfl rfl rfl rfl rfl (fun _ => rfl) (fun _ => rfl) own0 (by unfold maxLen;omega) (by omega) (by omega) ?_;intro g c w4 own4 g4 hg4);go_roundw
    case rel =>
     have own5 : w4.ownsRow w.heap.size 33 1 (.slice (some ⟨g,0,none⟩) (i + 1) c) (i + 1) (vs ++ [.float .f32 r3]) := own4;exact ⟨i + 1,vs ++ [.float .f32 r3],_,_,by omega,by go_num,rfl,own5,by rw [Hid];exact HF.out.push HV3.out,he.grown g4 (fun k hk => jah own0 k hk)⟩
    case measure => simp [intOf];omega
  · obtain rfl : n = i := by omega
    go_wp2;go_ret2;exact ⟨r0,q,cq,vs,rfl,HB2.out,own0,HF.out,he⟩
theorem softmax_any (p : Option Addr) (n c : Nat) (us : List Value) (xs : List Nat) (w : World) (hx : xs.length = n) (h1 : 1 ≤ n) (hn : n ≤ 1073741824) (hp : Cs w p us) (hf : F32s us xs) :
 Calls Try.prog 122 #[.slice p n c] w (RetFl w (softF xs)) := by
 have X := hid hx;have C := hid (exps_any p n c us xs w hx h1 hn hp hf);clear hx;go_enter Try.func122,Try.ntmps122;go_wp2_with fail;refine C.out.mono ?_;rintro e w1 ⟨b,q,cq,vs,rfl,_,own0,hF,he⟩
 have HF := hid hF;clear hF;go_wp2_with fail;refine (sumOf_any q n cq vs (tab n (sE xs)) _ (jbg _ _) (by unfold maxLen;omega) (jbc own0) HF.out).mono ?_;rintro e w1 ⟨r1,rfl,g1,e1⟩
 have hv : cn .f32 r1 = sumG (sE xs) n := by rw [g1];exact sumG_congr fun i hi => tab_get _ hi
 have HV := hid hv;clear hv g1;replace own0 := jak own0 e1;replace he := he.trans e1;have hO : ∀ i,sO xs i = fop .quo .f32 (sE xs i) (sumG (sE xs) n) := fun i => by unfold sO;rw [X.out]
 have HO := hid hO;clear hO;go_wp2_with fail;go_loopw [16] (fun iv wr => ∃ (i : Nat) (vs : List Value),i ≤ n ∧ iv = .int .i64 i ∧ wr.ownsRow w.heap.size 33 1 (.slice q n cq) n vs ∧ Hid (F32s vs (tab n (mix (sO xs) (sE xs) i))) ∧ Ext w wr) (fun iv _ => n - (intOf iv).toNat)
 case atStart => exact ⟨0,vs,by omega,rfl,own0,by rw [tab_mix0];exact HF.out,he⟩
 case round =>
  clear own0 he HF;obtain ⟨i,vs,hi,rfl,own0,HF,he⟩ := hrel;have hB := he.size
  by_cases hlt : i < n
  · have k1 := jbc own0
    have HL := hid (jbg n (mix (sO xs) (sE xs) i));have hg : (tab n (mix (sO xs) (sE xs) i)).getD i 0 = sE xs i := by rw [tab_get _ hlt];unfold mix;rw [if_neg (by omega)]
    have HG := hid hg;clear hg;go_wp2_with (first | ((with_reducible show gx2);refine wl_ldF rfl rfl rfl rfl (fun _ => rfl) rfl rfl k1 HF.out HL.out (by omega) (by omega) ?_;intro r2 g2;have G2 := hid g2;clear g2) | ((with_reducible show gx3);refine wl_fop rfl rfl rfl rfl rfl ?_;intro r3 w3 e3 g3;have G3 := hid g3;clear g3;replace own0 := jak own0 e3;replace he := he.trans e3) | ((with_reducible show gx10);refine wl_idxstore (u := .float .f32 r3) rfl rfl rfl rfl (fun _ => rfl) rfl rfl (fun _ => rfl) rfl own0 (by omega) (by omega) ?_;intro w4 own4 g4));go_roundw
    case rel =>
     refine ⟨i + 1,_,by omega,by go_num,own4,?_,he.grown g4 (fun k hk => jah own0 k hk)⟩;rw [Int.toNat_natCast];have q2 := G2.out;rw [Int.toNat_natCast,HG.out] at q2;exact HF.out.put hlt (by rw [G3.out,q2,HV.out,HO.out])
    case measure => simp [intOf];omega
  · obtain rfl : n = i := by omega
    rw [tab_mixn] at HF;go_wp2;go_ret;have hS : softF xs = tab n (sO xs) := by unfold softF;rw [X.out]
    rw [hS];exact retFl_own (jbg _ _) own0 HF.out rfl he
section
variable {P : Program} {w : World} {ops : Array Oper} {rest : List Oper} {o : Oper} {a : Act} {Q : Exit → Act → World → Prop}
theorem wl_stP {e : Nat} [Cell1 P e] {x y : Operand} (hg : o.guard = none) (ho : o.op = .store e x y)
 {p : Option Addr} {n c B i : Nat} {u : Value} (hx : a.eval x = .pointer (some (adr p i))) (hy : a.eval y = u) (hu1 : u.oneCell' = true) {vs : List Value} (hc : w.ownsRow B e 1 (.slice p n c) n vs) (hn : i < n)
 (h : ∀ w',w'.ownsRow B e 1 (.slice p n c) n (vs.set i u) → w.grownBy w' (Value.slice p n c).ownBlock → wpList P ops Q rest (a.put o.dst undef) w') : wpList P ops Q (o :: rest) a w := by
 obtain ⟨g,rfl⟩ := own_some hc (by omega);have hlen : vs.length = n := by have := hc.1;omega
 have hcell : w.cell? (adr (some ⟨g,0,none⟩) i) = some (vs[i]'(by omega)) := by
  rw [jap,hc.cellAt _ (by omega)];simp [hlen,hn]
 have hfr : w.frozen? (adr (some ⟨g,0,none⟩) i) = false := by rw [jap];exact hc.frozenAt _
 have hst := hc.stored i u;rw [← jap] at hst;refine wl_skip hg (w' := w.setCell (adr (some ⟨g,0,none⟩) i) u) ?_ (h _ hst.1 hst.2);simp [execOp,ho,hx,hy,run_store1 hcell hfr hu1]
end
def nM (xs : List Nat) : Nat := fop .quo .f32 (sumG (fun j => xs.getD j 0) xs.length) (floatOfInt .f32 (xs.length : Int))
def nD (xs : List Nat) (i : Nat) : Nat := fop .sub .f32 (xs.getD i 0) (nM xs)
def nR (xs : List Nat) : Nat := rootF (fop .add .f32 (fop .quo .f32 (dotG (nD xs) (nD xs) xs.length) (floatOfInt .f32 (xs.length : Int))) 981467136)
def nO (ws bs xs : List Nat) (i : Nat) : Nat := fop .add .f32 (fop .mul .f32 (fop .quo .f32 (nD xs i) (nR xs)) (ws.getD i 0)) (bs.getD i 0)
def normF (ws bs xs : List Nat) : List Nat := tab xs.length (nO ws bs xs)
theorem cn_near32 (n : Int) : cn .f32 (floatOfInt .f32 n) = floatOfInt .f32 n := cn_nearest .f32 n
theorem cn_eps : cn .f32 981467136 = 981467136 := by decide +kernel
theorem norm_any (k o : Int) (p pw pb : Option Addr) (n c cw cb : Nat) (us uw ub : List Value) (xs ws bs : List Nat) (w : World) (hx : xs.length = n) (hw : ws.length = n) (hb : bs.length = n) (hn : n ≤ 1073741824) (hp : Cs w p us) (hf : F32s us xs)
 (hpw : Cs w pw uw) (hfw : F32s uw ws) (hpb : Cs w pb ub) (hfb : F32s ub bs) :
 Calls Try.prog 123 #[.agg #[.int .i64 k,.int .i64 n,.int .i64 o,.slice pw n cw,.slice pb n cb],.slice p n c] w (RetFl w (normF ws bs xs)) := by
 have X := hid hx;have HW := hid hw;have HB := hid hb;have hS : normF ws bs xs = tab n (nO ws bs xs) := by unfold normF;rw [hx]
 have HS := hid hS;have hM : nM xs = fop .quo .f32 (sumG (fun j => xs.getD j 0) n) (floatOfInt .f32 n) := by unfold nM;rw [hx]
 have HM := hid hM;have hR : nR xs = rootF (fop .add .f32 (fop .quo .f32 (dotG (nD xs) (nD xs) n) (floatOfInt .f32 n)) 981467136) := by unfold nR;rw [hx]
 have HR := hid hR;have eA := Ext.alloc w (.cells #[.int .i64 k,.int .i64 n,.int .i64 o,.slice pw n cw,.slice pb n cb] 41)
 have ca : ∀ (j : Nat) (v : Value),#[Value.int .i64 k,.int .i64 n,.int .i64 o,.slice pw n cw,.slice pb n cb][j]? = some v → (w.alloc (.cells #[.int .i64 k,.int .i64 n,.int .i64 o,.slice pw n cw,.slice pb n cb] 41)).cell? ⟨w.heap.size,j,none⟩ = some v := fun j v h => by
  unfold World.cell?;rw [heap_alloc_new]
  simpa using h
 have f3 := ca 3 _ rfl;have f4 := ca 4 _ rfl;have C := hid (sumOf_any p n c us xs (w.alloc (.cells #[.int .i64 k,.int .i64 n,.int .i64 o,.slice pw n cw,.slice pb n cb] 41)) hx (by unfold maxLen;omega) (hp.ext eA) hf);clear hx hw hb hS hM hR ca;go_enter Try.func123,Try.ntmps123;go_wp2_with fail;refine C.out.mono ?_;rintro e w1 ⟨r0,rfl,g0,e1⟩
 have G0 := hid g0;clear g0;have e0 := eA.trans e1;replace f3 := e1.cell f3;replace f4 := e1.cell f4;clear e1;go_wp2_with ((with_reducible show gx3);refine wl_fop rfl rfl rfl rfl rfl ?_;intro r1 w2 e2 g1;have G1 := hid g1;clear g1);have hv : cn .f32 r1 = nM xs := by rw [G1.out,G0.out,cn_near32,HM.out]
 have HV := hid hv;clear hv;replace e0 := e0.trans e2;replace f3 := e2.cell f3;replace f4 := e2.cell f4;have hstart : (w2.alloc (.cells #[] 33)).ownsRow w2.heap.size 33 1 (.slice (some ⟨w2.heap.size,0,none⟩) 0 0) 0 [] := World.ownsRow_made w2 #[] 0 (Nat.le_refl _) (by decide) rfl;have e9 := Ext.alloc w2 (.cells #[] 33);clear e2;go_loopw [7,22] (fun ov iv wr => ∃ (i : Nat) (vs : List Value) (q : Option Addr) (cq : Nat),i ≤ n ∧ iv = .int .i64 i ∧ ov = .slice q i cq ∧ wr.ownsRow w2.heap.size 33 1 (.slice q i cq) i vs ∧ Hid (F32s vs (tab i (nD xs))) ∧ Ext w2 wr) (fun _ iv _ => n - (intOf iv).toNat)
 case atStart => exact ⟨0,[],_,_,by omega,rfl,rfl,hstart,F32s.nil,e9⟩
 case round =>
  clear hstart e9;obtain ⟨i,vs,q,cq,hi,rfl,rfl,own0,HF,he⟩ := hrel;have hB := he.size
  by_cases hlt : i < n
  · have k1 := hp.ext (e0.trans he)
    go_wp2_with (first | ((with_reducible show gx2);refine wl_ldF rfl rfl rfl rfl (fun _ => rfl) rfl rfl k1 hf X.out (by omega) (by omega) ?_;intro r2 g2;have G2 := hid g2;clear g2) | ((with_reducible show gx3);refine wl_fop rfl rfl rfl rfl rfl ?_;intro r3 w3 e3 g3;have G3 := hid g3;clear g3;replace own0 := jak own0 e3;replace he := he.trans e3;have hB := he.size) | ((with_reducible show gx9);refine ja4 (u := .float .f32 r3) rfl rfl rfl rfl rfl rfl rfl (fun _ => rfl) (fun _ => rfl) own0 (by unfold maxLen;omega) (by omega) (by omega) ?_;intro g c w4 own4 g4 hg4));have hv : cn .f32 r3 = nD xs i := by rw [G3.out,G2.out,HV.out,Int.toNat_natCast];rfl
    have HV3 := hid hv;clear hv;go_roundw
    case rel =>
     have own5 : w4.ownsRow w2.heap.size 33 1 (.slice (some ⟨g,0,none⟩) (i + 1) c) (i + 1) (vs ++ [.float .f32 r3]) := own4;exact ⟨i + 1,vs ++ [.float .f32 r3],_,_,by omega,by go_num,rfl,own5,by rw [Hid];exact HF.out.push HV3.out,he.grown g4 (fun k hk => jah own0 k hk)⟩
    case measure => simp [intOf];omega
  · obtain rfl : n = i := by omega
    go_wp2_with fail;refine (dot_any q q n cq n cq vs vs (tab n (nD xs)) (tab n (nD xs)) _ (jbg _ _) (jbg _ _) (Nat.le_refl _) (by unfold maxLen;omega) (jbc own0) HF.out (jbc own0) HF.out).mono ?_;rintro e w3 ⟨r3,rfl,g3,e3⟩
    have hv : cn .f32 r3 = dotG (nD xs) (nD xs) n := by rw [g3];exact dotG_congr (fun i hi => tab_get _ hi) (fun i hi => tab_get _ hi)
    have HV3 := hid hv;clear hv g3;replace own0 := jak own0 e3;replace he := he.trans e3;go_wp2_with ((with_reducible show gx3);refine wl_fop rfl rfl rfl rfl rfl ?_;first | (have zz := G4;intro r5 w5 e5 g5;have G5 := hid g5;clear g5 zz;replace own0 := jak own0 e5;replace he := he.trans e5) | (intro r4 w4 e4 g4;have G4 := hid g4;clear g4;replace own0 := jak own0 e4;replace he := he.trans e4));refine (RootNumber_any r5 _).mono ?_;rintro e w6 ⟨r6,rfl,g6,e6⟩
    have hv : cn .f32 r6 = nR xs := by rw [g6,G5.out,G4.out,HV3.out,cn_near32,cn_eps,HR.out]
    have HV6 := hid hv;clear hv g6;replace own0 := jak own0 e6;replace he := he.trans e6;go_wp2_with fail;go_loopw [42] (fun iv wr => ∃ (i : Nat) (vs : List Value),i ≤ n ∧ iv = .int .i64 i ∧ wr.ownsRow w2.heap.size 33 1 (.slice q n cq) n vs ∧ Hid (F32s vs (tab n (mix (nO ws bs xs) (nD xs) i))) ∧ Ext w2 wr) (fun iv _ => n - (intOf iv).toNat)
    case atStart => exact ⟨0,vs,by omega,rfl,own0,by rw [tab_mix0];exact HF.out,he⟩
    case round =>
     clear own0 he HF hB;obtain ⟨i,vs,hi,rfl,own0,HF,he⟩ := hrel;have hB := he.size
     by_cases hlt : i < n
     · have HL := hid (jbg n (mix (nO ws bs xs) (nD xs) i))
       have hg : (tab n (mix (nO ws bs xs) (nD xs) i)).getD i 0 = nD xs i := by rw [tab_get _ hlt];unfold mix;rw [if_neg (by omega)]
       have HG := hid hg;have hsome := (jbc own0).isS (by have := own0.1;intro h;rw [h] at this;simp at this;omega);clear hg;go_wp2;replace own0 := jak own0 (Ext.drew _);replace he := he.trans (Ext.drew _);have k1 := jbc own0;have k3 := hpw.ext (e0.trans he);have k4 := hpb.ext (e0.trans he);have k5 := he.cell f3;have k6 := he.cell f4;refine wp_region_xt 21 (F := fun _ _ _ => True) (by kernel_rfl) (by kernel_rfl) (by kernel_rfl) (by kernel_rfl) (by kernel_rfl) ?_;intro wf hwf;simp only [pw1,pw2,pw3,pw4]
       repeat (first
        | ((first | (refine jar rfl ?_) | (refine x_mv rfl rfl rfl ?_) | (refine x_as rfl rfl rfl ?_) | ((with_reducible show gx0);first | (refine x_ldF rfl rfl (fun _ => rfl) rfl (fun _ => rfl) rfl rfl k1 HF.out HL.out (by omega) (by omega) ?_;intro r7 g7;have G7 := hid g7;clear g7) | (refine x_ldF rfl rfl (fun _ => rfl) rfl (fun _ => rfl) rfl rfl k3 hfw HW.out (by omega) (by omega) ?_;intro r8 g8;have G8 := hid g8;clear g8) | (refine x_ldF rfl rfl (fun _ => rfl) rfl (fun _ => rfl) rfl rfl k4 hfb HB.out (by omega) (by omega) ?_;intro r9 g9;have G9 := hid g9;clear g9)) | ((with_reducible show gx5);refine x_idx rfl rfl rfl rfl hsome (by omega) (by omega) ?_) | ((with_reducible show gx1);refine x_fop rfl rfl rfl rfl rfl ?_;first | (have zz := GB;intro rC gC;have GC := hid gC;clear gC zz) | (have zz := GA;intro rB gB;have GB := hid gB;clear gB zz) | (intro rA gA;have GA := hid gA;clear gA)));simp only [Act.put,jad,pu1,pu2,pu3,pu4,pu5])
        | (refine ja7 rfl fun K hK w1 hw1 => ?_;have k0 := hw1.cell (k5);have k1 := hw1.cell (k6);go_simp;refine hK _ ?_;clear hK K k0 k1 hw1 w1))
       refine ja6 ?_;replace own0 := jak own0 hwf;replace he := he.trans hwf;go_wp2_with ((with_reducible show gx11);refine wl_stP (u := .float .f32 rC) rfl rfl rfl rfl rfl own0 (by omega) ?_;intro w7 own7 g7);go_roundw
       case rel =>
        refine ⟨i + 1,_,by omega,by go_num,own7,?_,he.grown g7 (fun k hk => jah own0 k hk)⟩;have q7 := G7.out;have q8 := G8.out;have q9 := G9.out;rw [Int.toNat_natCast] at q7 q8 q9;rw [HG.out] at q7;simp only [Int.toNat_natCast,Nat.mul_one,Hid];exact HF.out.put hlt (by rw [GC.out,GB.out,GA.out,q7,q8,q9,HV6.out];rfl)
       case measure => simp [intOf];omega
     · obtain rfl : n = i := by omega
       rw [tab_mixn] at HF;go_wp2;go_ret;rw [HS.out];exact retFl_own (jbg _ _) (ja0 own0 e0.size) HF.out rfl (e0.trans he)
end Go.Proofs.Ytmbckkcgiafagaa
