/- A part of the proofs: ReducedLaw, OpenB. -/
import Derived.Test.YtmbckkcgiafagaaZ12FnRedu
import Derived.Test.YtmbckkcgiafagaaZ15FnRedu
import Derived.Test.YtmbckkcgiafagaaZ11FnRedu
import Derived.Test.YtmbckkcgiafagaaZ09FnRedu
import Derived.Test.YtmbckkcgiafagaaZ06FnRedu
import Derived.Test.YtmbckkcgiafagaaZ13FnRedu
set_option linter.unusedSimpArgs false
set_option linter.unusedVariables false
set_option maxRecDepth 100000
set_option maxHeartbeats 16000000
namespace Go.Proofs.Ytmbckkcgiafagaa.lReduced
open Go.RowKit
section
variable {P : Program} {w : World} {ops : Array Oper} {rest : List Oper} {o : Oper} {a : Act} {Q : Exit → Act → World → Prop}
theorem wl_convI {src dst : TypeId} {x : Operand} {b : Nat} {z : Int} (hg : o.guard = none) (ho : o.op = .convert src dst x) (hx : a.eval x = .float .f32 b) (hs : (P.underlying src).isSome = true) (hd : P.underlying dst = some (.int .i64)) (hb : cn .f32 b = gz z) (hz : z.natAbs < 2 ^ 23)
 (h : wpList P ops Q rest (a.put o.dst (.int .i64 z)) w) : wpList P ops Q (o :: rest) a w := by
 have hb' := gz_of hb;subst hb';exact ja4 hg (by simp [execOp,ho,hx,run_convert_float_int (P := P) w src dst .f32 .i64 _ z hs hd (gz_int hz)]) h
end
section
variable {P : Program} {w wf : World} {ops : Array Oper} {rest : List Oper} {o : Oper} {a : Act} {Q : Act → Prop} {F : Option Tmp → World → World → Value → Prop}
theorem x_convI {src dst : TypeId} {x : Operand} {b : Nat} {z : Int} (hw : Region.wanted o (yielded ops a.tmps) = true) (ho : o.op = .convert src dst x) (hx : a.eval x = .float .f32 b) (hs : (P.underlying src).isSome = true) (hd : P.underlying dst = some (.int .i64)) (hb : cn .f32 b = gz z) (hz : z.natAbs < 2 ^ 23)
 (h : wpX P ops F w wf Q rest (a.put o.dst (.int .i64 z))) : wpX P ops F w wf Q (o :: rest) a := by
 have hb' := gz_of hb;subst hb';exact x_pure hw (fun w1 _ => by simp [execOp,ho,hx,run_convert_float_int (P := P) w1 src dst .f32 .i64 _ z hs hd (gz_int hz)]) h
end
theorem same_t (a b : Nat) (w : World) (h : cn .f32 a = cn .f32 b) (hb : cn .f32 b < 4294967296) : Calls Try.prog 14 #[.float .f32 a,.float .f32 b] w fun e w3 => ∃ u,e = .returned u ∧ Ext w w3 ∧ u = .bool true :=
 (SameNumber_any a b w (by rw [h];exact hb) hb).mono fun e w3 h' => ⟨_,h'.1,by rw [h'.2];exact Ext.refl _,by rw [decide_eq_true h]⟩
def rowsV (q : Option Addr) (c m i : Nat) : List Value := (List.range i).map fun k => Value.slice (subp q 1 (k * m) c) m (c - k * m)
theorem rowsV_succ (q : Option Addr) (c m i : Nat) : rowsV q c m (i + 1) = rowsV q c m i ++ [Value.slice (subp q 1 (i * m) c) m (c - i * m)] := by simp [rowsV,List.range_succ]
theorem mul_le_room {i n m c : Nat} (h : i < n) (hc : n * m ≤ c) : i * m + m ≤ c := by
 have := Nat.mul_le_mul_right m (show i + 1 ≤ n by omega);rw [Nat.add_mul] at this;omega
theorem rows_flat (q : Option Addr) (c m : Nat) : ∀ n,((List.range n).map fun k => [Value.slice (subp q 1 (k * m) c) m (c - k * m)]).flatten = rowsV q c m n
 | 0 => rfl
 | n + 1 => by rw [rowsV_succ,← rows_flat q c m n,List.range_succ,List.map_append,List.flatten_append];rfl
theorem rep_rows {w : World} {p q : Option Addr} {n c cq m : Nat} {vs : List Value} {xs : List Nat} (hp : Cs w p (rowsV q cq m n)) (hq : Cs w q vs) (hf : F32s vs xs) (hx : xs.length = n * m) (h1 : n * m ≤ cq) (h2 : cq ≤ maxLen) (h3 : n ≤ c) (h4 : c ≤ maxLen) :
 Rep w (.sl (.sl .flt)) [.slice p n c] (ltab n (rowT xs m)) := by
 have hl : (ltab n (rowT xs m)).length = n := ltab_len _ _;refine ⟨p,c,(List.range n).map fun k => [Value.slice (subp q 1 (k * m) cq) m (cq - k * m)],by rw [hl],by rw [rows_flat];exact hp,by rw [hl];exact h3,h4,?_⟩;refine All2.of_get (by simp [hl]) fun i x y hx' hy => ?_
 have hi : i < n := by
  rcases Nat.lt_or_ge i n with h | h
  · exact h
  · simp [h] at hx'
 have e1 : x = [Value.slice (subp q 1 (i * m) cq) m (cq - i * m)] := by simp [hi] at hx';exact hx'.symm
 have e2 : y = rowT xs m i := by simp [ltab,hi] at hy;exact hy.symm
 rw [e1,e2];exact rep_row hq hf hx hi h1 h2
theorem fit_rows {xs : List Nat} (h : ∀ x ∈ xs,x < 4294967296) (n m : Nat) : Fit (.sl (.sl .flt)) (ltab n (rowT xs m)) := by
 intro r hr x hx;unfold ltab at hr;obtain ⟨i,_,rfl⟩ := List.mem_map.1 hr;unfold rowT at hx;exact h x (List.mem_of_mem_take (List.mem_of_mem_drop hx))
theorem law_any (p0 q0 : Option Addr) (n0 c0 m0 d0 : Nat) (bs ms : List Nat) (w : World) (hc0 : Cs w p0 (u8s bs)) (hl0 : bs.length = n0) (hb0 : ∀ b ∈ bs,b < 256) (hd0 : Cs w q0 (u8s ms)) (hm0 : ms.length = m0) (hb1 : ∀ b ∈ ms,b < 256) :
 Calls Try.prog 3 #[.slice p0 n0 c0,.slice q0 m0 d0] w fun e w' => e = .returned (.bool true) ∧ Ext w w' := by
 go_enter Try.func3,Try.ntmps3;go_wp2_with fail;refine (lNumberBytes.r8Long_any _ _ _ _ _ _ _).mono ?_;rintro e w1 ⟨rfl,rfl⟩
 by_cases hlong : 48 < n0 ∨ 48 < m0
 · have hd : (decide (48 < n0) || decide (48 < m0)) = true := by simpa using hlong
   rw [hd];go_wp2;go_ret;exact ⟨rfl,Ext.refl _⟩
 have hn0 : n0 ≤ 48 := by omega
 have hmm0 : m0 ≤ 48 := by omega
 have hd : (decide (48 < n0) || decide (48 < m0)) = false := by simp;omega
 rw [hd];clear hd hlong;go_wp2_with fail;refine (r8At_any p0 n0 c0 bs 40 8 w hc0 hl0 (by omega) hb0 (by omega)).mono ?_;rintro e w1 ⟨x,rfl,hx,rfl⟩
 have hx := hx (by omega);obtain ⟨n,hn⟩ : ∃ n : Nat,(1 : Int) + (x : Int) = (n : Int) := ⟨1 + x,by omega⟩;have hn1 : 1 ≤ n := by omega
 have hn8 : n ≤ 8 := by omega
 clear hx;go_wp2_with fail;refine (r8At_any p0 n0 c0 bs 41 6 w hc0 hl0 (by omega) hb0 (by omega)).mono ?_;rintro e w1 ⟨y,rfl,hy,rfl⟩
 have hy := hy (by omega);obtain ⟨m,hm⟩ : ∃ m : Nat,(1 : Int) + (y : Int) = (m : Int) := ⟨1 + y,by omega⟩;have hm1 : 1 ≤ m := by omega
 have hm6 : m ≤ 6 := by omega
 clear hy;go_wp2_with fail;refine (R8Small_any q0 m0 d0 ms n m 100 w hd0 hm0 (by omega) hb1 (by omega) (by omega) (by omega)).mono ?_;rintro e w1 ⟨zs,q,c,vs,rfl,hzl,hzb,ho1,hf1,e1⟩
 have hcap1 := (jas ho1).1;have hcm1 := (jas ho1).2;have cs1 := jbi ho1;obtain ⟨w2,hw2⟩ : ∃ w2,w2 = w1.alloc (.cells #[.int .i64 n,.int .i64 m,.slice q (n * m) c] 27) := ⟨_,rfl⟩;have b7 : HB w2 w1.heap.size #[.int .i64 n,.int .i64 m,.slice q (n * m) c] 27 := by rw [hw2];exact HB.new _ _ _
 have e2 : Ext w1 w2 := by rw [hw2];exact Ext.alloc _ _
 go_wp2_with fail;rw [← hw2];clear hw2;have hE2 := e1.trans e2;refine (R8Tensor_any q0 m0 d0 ms n m w2 (hd0.ext hE2) hm0 (by omega) hb1 (by omega) (by omega)).mono ?_;rintro e w3 ⟨xs,tq,tc,us,rfl,hxl,hxb,ho3,hf3,e3⟩
 have hcap3 := (jas ho3).1;have hcm3 := (jas ho3).2;have cs3 := jbi ho3;obtain ⟨W3,hW3⟩ : ∃ W3,W3 = w3.alloc (.cells #[.int .i64 n,.int .i64 m,.slice tq (n * m) tc] 27) := ⟨_,rfl⟩;have hB3 : W3.heap.size = w3.heap.size + 1 := by rw [hW3];simp
 have b8 : HB W3 w3.heap.size #[.int .i64 n,.int .i64 m,.slice tq (n * m) tc] 27 := by rw [hW3];exact HB.new _ _ _
 have e3W : Ext w3 W3 := by rw [hW3];exact Ext.alloc _ _
 have b7W := (b7.ext e3).ext e3W;obtain ⟨w4,hw4⟩ : ∃ w4,w4 = (W3.alloc (.cells #[] 25)).alloc (.cells #[] 25) := ⟨_,rfl⟩;go_wp2;rw [← hW3,← hw4,← hB3];have x4 : Ext W3 w4 := by rw [hw4];exact (Ext.alloc _ _).trans (Ext.alloc _ _)
 have o9 : w4.ownsRow W3.heap.size 25 1 (.slice (some ⟨W3.heap.size,0,none⟩) 0 0) 0 [] := by
  rw [hw4];exact jaj (World.ownsRow_made W3 #[] 0 (Nat.le_refl _) (by decide) rfl) (Ext.alloc _ _)
 have o10 : w4.ownsRow W3.heap.size 25 1 (.slice (some ⟨W3.heap.size + 1,0,none⟩) 0 0) 0 [] := by
  have h := World.ownsRow_made (e := 25) (W3.alloc (.cells #[] 25)) #[] 0 (base := W3.heap.size) (size := 1) (by simp) (by decide) rfl;rw [hw4];have hs : (W3.alloc (.cells #[] 25)).heap.size = W3.heap.size + 1 := by simp
  rw [hs] at h;exact h
 have hD : Hid (∀ b,(Value.slice (some ⟨W3.heap.size,0,none⟩) 0 0).ownBlock = some b → (Value.slice (some ⟨W3.heap.size + 1,0,none⟩) 0 0).ownBlock ≠ some b) := hid (fun b h1 h2 => by simp [Value.ownBlock] at h1 h2;omega);clear hW3 hw4;have HB3 := hid hB3;clear hB3;go_loopw [9,10,11] (fun v9 v10 iv wr => ∃ (i : Nat) (p9 : Option Addr) (k9 : Nat) (p10 : Option Addr) (k10 : Nat),i ≤ n ∧ v9 = .slice p9 i k9 ∧ v10 = .slice p10 i k10 ∧ iv = .int .i64 (i : Int) ∧ wr.ownsRow W3.heap.size 25 1 (.slice p9 i k9) i (rowsV q c m i) ∧ wr.ownsRow W3.heap.size 25 1 (.slice p10 i k10) i (rowsV tq tc m i) ∧ Hid (∀ b,(Value.slice p9 i k9).ownBlock = some b → (Value.slice p10 i k10).ownBlock ≠ some b) ∧ Ext W3 wr) (fun _ _ iv _ => n - (intOf iv).toNat)
 case atStart => exact ⟨0,_,_,_,_,by omega,rfl,rfl,rfl,o9,o10,hD,x4⟩
 case round =>
  clear o9 o10 hD x4;obtain ⟨i,p9,k9,p10,k10,hi,rfl,rfl,rfl,o9,o10,hD,x4⟩ := hrel;have hsz := x4.size
  by_cases hlt : i < n
  · have hdl : decide ((i : Int) < (n : Int)) = true := by simp;omega
    have r1 := mul_le_room (m := m) hlt hcap1;have r2 := mul_le_room (m := m) hlt hcap3;obtain ⟨im,him⟩ : ∃ im,im = i * m := ⟨_,rfl⟩;have him6 : im ≤ 48 := by rw [him];exact Nat.mul_le_mul (show i ≤ 8 by omega) hm6
    have q1 : IntKind.i64.wrap ((i : Int) * (m : Int)) = (im : Int) := by rw [him,← Int.natCast_mul,← him];exact jau _ (by omega) (by omega)
    have q2 : IntKind.i64.wrap (((i : Int) + 1) * (m : Int)) = ((im + m : Nat) : Int) := by
     have : ((i : Int) + 1) * (m : Int) = ((im + m : Nat) : Int) := by rw [him];push_cast;rw [Int.add_mul,Int.one_mul]
     rw [this];exact jau _ (by omega) (by omega)
    have r9 := rowsV_succ q c m i;have r10 := rowsV_succ tq tc m i;rw [← him] at r1 r2 r9 r10;have R9 := hid r9;have R10 := hid r10;have HIM := hid him;clear r9 r10 him;have y7 := (b7W.ext x4).cell 2 rfl;have f7 := (b7W.ext x4).froz 2
    go_wp2_with (first
     | refine wl_slice (l := im) (u := im + m) (c := c) rfl rfl rfl rfl rfl rfl rfl (by omega) r1 ?_;simp only [Nat.add_sub_cancel_left]
     | refine wl_slice (l := im) (u := im + m) (c := tc) rfl rfl rfl rfl rfl rfl rfl (by omega) r2 ?_;simp only [Nat.add_sub_cancel_left]
     | ((with_reducible show gx6);refine ja5 (u := .slice (subp q 1 im c) m (c - im)) rfl rfl rfl rfl rfl rfl rfl (fun _ => rfl) (fun _ => rfl) o9 (by unfold maxLen;omega) (by omega) (by omega) ?_;intro g9 c9 w5 o9' gr9 hg9;have x5 := x4.grown gr9 (fun k hk => jak o9 k hk);have o10' := ja0 o10 (.of_grown gr9) (fun k hk hs => hD.out k hs.symm hk);have y8 := (b8.ext x5).cell 2 rfl;have f8 := (b8.ext x5).froz 2;have hs5 := x5.size)
     | ((with_reducible show gx6);refine ja5 (u := .slice (subp tq 1 im tc) m (tc - im)) rfl rfl rfl rfl rfl rfl rfl (fun _ => rfl) (fun _ => rfl) o10' (by unfold maxLen;omega) (by omega) (by omega) ?_;intro g10 c10 w6 o10'' gr10 hg10)
     | fail)
    go_roundw
    case rel =>
     have k9 : ∀ k,(Value.slice (some ⟨g9,0,none⟩) (i + 1) c9).ownBlock = some k → ¬ some k = (Value.slice p10 i k10).ownBlock := by
      intro k hk hs;obtain rfl : g9 = k := by simpa [Value.ownBlock] using hk
      rcases hg9 with h | h
      · exact hD.out _ h hs.symm
      · have := (o10.lt _ hs.symm).2;omega
     have o9f := ja0 o9' (.of_grown gr10) k9;have o9g : w6.ownsRow W3.heap.size 25 1 (.slice (some ⟨g9,0,none⟩) (i + 1) c9) (i + 1) (rowsV q c m (i + 1)) := by rw [R9.out];exact o9f
     have o10g : w6.ownsRow W3.heap.size 25 1 (.slice (some ⟨g10,0,none⟩) (i + 1) c10) (i + 1) (rowsV tq tc m (i + 1)) := by rw [R10.out];exact o10''
     refine ⟨i + 1,_,_,_,_,by omega,rfl,rfl,by go_num,o9g,o10g,hid (fun b h1 h2 => ?_),x5.grown gr10 (fun k hk => jak o10' k hk)⟩;obtain rfl : g9 = b := by simpa [Value.ownBlock] using h1
     rcases hg10 with h | h
     · exact k9 _ rfl (by rw [h];exact h2.symm)
     · have h3 := (o9'.lt g9 rfl).2
       have h4 : g10 = g9 := by simpa [Value.ownBlock] using h2
       omega
    case measure => simp [intOf];omega
  · obtain rfl : i = n := by omega
    clear hlt hi;obtain ⟨D9,hD9⟩ : ∃ D9,D9 = ltab i (rowT (zs.map fun z => cn .f32 (floatOfInt .f32 z)) m) := ⟨_,rfl⟩;obtain ⟨D10,hD10⟩ : ∃ D10,D10 = ltab i (rowT xs m) := ⟨_,rfl⟩;have hl9 : D9.length = i := by rw [hD9,ltab_len]
    have hl10 : D10.length = i := by rw [hD10,ltab_len]
    have R9 : Rep wr (.sl (.sl .flt)) [.slice p9 i k9] D9 := by
     rw [hD9];exact rep_rows (jbi o9) ((((cs1.ext e2).ext e3).ext e3W).ext x4) hf1 (by rw [List.length_map];exact hzl) hcap1 hcm1 (jas o9).1 (jas o9).2
    have R10 : Rep wr (.sl (.sl .flt)) [.slice p10 i k10] D10 := by
     rw [hD10];exact rep_rows (jbi o10) ((cs3.ext e3W).ext x4) hf3 hxl hcap3 hcm3 (jas o10).1 (jas o10).2
    have hE9 : EvenL D9 m := by
     intro j hj;rw [hl9] at hj;rw [hD9,ltab_get _ hj];exact rowT_len (by rw [List.length_map];exact hzl) hj
    have hE10 : EvenL D10 m := by
     intro j hj;rw [hl10] at hj;rw [hD10,ltab_get _ hj];exact rowT_len hxl hj
    have hF9 : Fit (.sl (.sl .flt)) D9 := by
     rw [hD9];refine fit_rows (fun x hx => ?_) _ _;obtain ⟨z,_,rfl⟩ := List.mem_map.1 hx;exact cn_lt (nearest_lt z)
    have hF10 : Fit (.sl (.sl .flt)) D10 := by rw [hD10];exact fit_rows hxb _ _
    have C9 := hid fun (k : Int) (hi : inB k 0 2 = true) (hk : Fit .int k) (W : World) (hW : Ext wr W) => (lReduceLists.impl_ok k _ D9 W (Rep.ext hW R9) hk hF9).mono fun e W' h => call_ok (okR_of hi (by omega) (by omega) hE9 (by omega)) h
    have C10 := hid fun (k : Int) (hi : inB k 0 2 = true) (hk : Fit .int k) (W : World) (hW : Ext wr W) => (lReduceLists.impl_ok k _ D10 W (Rep.ext hW R10) hk hF10).mono fun e W' h => call_ok (okR_of hi (by omega) (by omega) hE10 (by omega)) h
    have G9 := fun k => hE9.red (by omega) k
    have G10 := fun k => hE10.red (by omega) k
    simp only [G9] at C9;simp only [G10] at C10;simp only [ofCs,Sh.agg,if_false,Bool.false_eq_true,List.headD_cons] at C9 C10;have Hd9 := hid hD9;have Hd10 := hid hD10;have Hl9 := hid hl9;have Hl10 := hid hl10;have N9 := hid (jbi o9);have N10 := hid (jbi o10);have V9 := hid ((((cs1.ext e2).ext e3).ext e3W).ext x4);have V10 := hid ((cs3.ext e3W).ext x4);obtain ⟨pa9,ka9,us9,hv9,FL9,_⟩ := fls_of R9;obtain ⟨pa10,ka10,us10,hv10,FL10,_⟩ := fls_of R10;simp only [Value.slice.injEq] at hv9 hv10;obtain ⟨rfl,-,rfl⟩ := hv9;obtain ⟨rfl,-,rfl⟩ := hv10;rw [hl9] at FL9;rw [hl10] at FL10;have HLE9 := hid (fun t (ht : t < i) => hE9 t (by rw [hl9];exact ht));have HLE10 := hid (fun t (ht : t < i) => hE10 t (by rw [hl10];exact ht));have HAT9 := hid (fun t (ht : t < i) => show ∃ q c vs,us9[t]? = some (.slice q m c) ∧ Cs wr q vs ∧ F32s vs (D9.getD t []) by obtain ⟨q,c,vs,k1,k2,k3,_⟩ := FL9.at' t ht;rw [HLE9.out t ht] at k1;exact ⟨q,c,vs,k1,k2,k3⟩);have HAT10 := hid (fun t (ht : t < i) => show ∃ q c vs,us10[t]? = some (.slice q m c) ∧ Cs wr q vs ∧ F32s vs (D10.getD t []) by obtain ⟨q,c,vs,k1,k2,k3,_⟩ := FL10.at' t ht;rw [HLE10.out t ht] at k1;exact ⟨q,c,vs,k1,k2,k3⟩);have HC9 := FL9.cs;have HC10 := FL10.cs;have HCN9 := hid FL9.cnt;have HCN10 := hid FL10.cnt;obtain ⟨Z,hZ⟩ : ∃ Z : Nat → Nat → Int,Z = fun t j => zs.getD (t * m + j) 0 := ⟨_,rfl⟩
    have hGZ : GZ D9 Z m := by rw [hZ,hD9];exact gz_rows hzl
    have HZB := hid (fun t (ht : t < i) j (hj : j < m) => show (Z t j).natAbs ≤ 100 by rw [hZ];exact gz_bd hzl hzb ht hj);have HG9 := hid (fun t (ht : t < i) j (hj : j < m) => hGZ t (by rw [hl9];exact ht) j hj);have HR9 := hid (fun (k : Int) j (hj : j < m) => show (redF k D9).getD j 0 = gz (SZ (fun t => Z t j) i) by rw [← hl9];exact redF_gz (M := 100) (by omega) (by omega) hE9 hGZ hj (fun t ht j hj => HZB.out t (by omega) j hj) (by decide));have hlt10 : ∀ r ∈ D10,∀ x ∈ r,x < 4294967296 := hF10;have HSL := hid (sumK_lt hlt10);have HX10 := hid (fun j (hj : j < m) => red0_get (j := j) hl10 hn1 hE10 hj);have HZ10 := hid (fun j (hj : j < m) => red2_get (j := j) hl10 hn1 hE10 hj);have HRL := hid (red0_lt hlt10);have HR1 := hid (fun (k : Int) (h2 : i ≤ 2) => redF_two (k := k) (by omega) (by omega) hE10);have HLN9 := hid (fun k => hE9.red (show 1 ≤ D9.length by omega) k);have HLN10 := hid (fun k => hE10.red (show 1 ≤ D10.length by omega) k);have HSS := hid (fun f j t => show sumK D10 f j (t + 1) = fop .add .f32 (sumK D10 f j t) ((D10.getD ((f + t + 1) % i) []).getD j 0) by rw [← hl10];rfl);clear hZ hGZ FL9 FL10 hlt10;clear R9 R10 hD9 hD10 hl9 hl10 o9 o10 hD b7W b8 G9 G10;go_wp2_with fail;refine (C9.out 0 rfl ⟨by decide,by decide⟩ wr (Ext.refl _)).mono ?_;rintro e w5 ⟨qa,ca,va,rfl,a1,a2,e5⟩
    have A1 := hid a1;have A2 := hid a2;clear a1 a2;go_wp2_with fail;refine (C9.out 1 rfl ⟨by decide,by decide⟩ w5 e5).mono ?_;rintro e w6 ⟨qb,cb,vb,rfl,b1,b2,e6'⟩
    have e6 := e5.trans e6';have B1 := hid b1;have B2 := hid b2;clear b1 b2;go_wp2_with fail;refine (C9.out 2 rfl ⟨by decide,by decide⟩ w6 e6).mono ?_;rintro e w7 ⟨qc,cc,vc,rfl,c1,c2,e7'⟩
    have e7 := e6.trans e7';have C1 := hid c1;have C2 := hid c2;clear c1 c2;go_wp2_with fail;refine (C10.out 0 rfl ⟨by decide,by decide⟩ w7 e7).mono ?_;rintro e w8 ⟨qd,cd,vd,rfl,d1,d2,e8'⟩
    have e8 := e7.trans e8';have D1 := hid d1;have D2 := hid d2;clear d1 d2;go_wp2_with fail;refine (C10.out 1 rfl ⟨by decide,by decide⟩ w8 e8).mono ?_;rintro e w9 ⟨qe,ce,ve,rfl,f1,f2,e9'⟩
    have e9 := e8.trans e9';have E1 := hid f1;have E2 := hid f2;clear f1 f2;go_wp2_with fail;refine (C10.out 2 rfl ⟨by decide,by decide⟩ w9 e9).mono ?_;rintro e wA ⟨qf,cf,vf,rfl,g1,g2,eA'⟩
    have eA := e9.trans eA';have F1 := hid g1;have F2 := hid g2;clear g1 g2;have X9 := e9;have XA := eA;have Ka1 := A1.out.ext (e6'.trans (e7'.trans (e8'.trans (e9'.trans eA'))));have Kb1 := B1.out.ext (e7'.trans (e8'.trans (e9'.trans eA')));have Kc1 := C1.out.ext (e8'.trans (e9'.trans eA'));have Kd1 := D1.out.ext (e9'.trans eA');have Ke1 := E1.out.ext eA';have Kf1 := F1.out;go_wp2;go_loopw [24] (fun jv W => ∃ (j : Nat) (Wj : World),j ≤ m ∧ jv = .int .i64 (j : Int) ∧ Wj = W ∧ Ext wA Wj) (fun jv _ => m - (intOf jv).toNat)
    case atStart => exact ⟨0,_,by omega,rfl,rfl,Ext.refl _⟩
    case round =>
     obtain ⟨j,Wj,hj,rfl,rfl,xw⟩ := hrel
     by_cases hlt : j < m
     · have hdl : decide ((j : Int) < (m : Int)) = true := by simp;omega
       have HGa := hid (HR9.out 0 j hlt);have HGb := hid (HR9.out 1 j hlt);have HGc := hid (HR9.out 2 j hlt);obtain ⟨zf,hzf⟩ : ∃ zf : Nat → Int,zf = fun t => Z t j := ⟨_,rfl⟩
       have HGt := hid (fun t (ht : t < i) => show (D9.getD t []).getD j 0 = gz (zf t) by rw [hzf];exact HG9.out t ht j hlt);have HBt := hid (fun t (ht : t < i) => show (zf t).natAbs ≤ 100 by rw [hzf];exact HZB.out t ht j hlt);have HSt := hid (fun t (ht : t ≤ i) => SZ_bd (h := zf) (M := 100) t fun a ha => HBt.out a (by omega));rw [← hzf] at HGa HGb HGc;clear hzf;have xF := eA.trans xw;go_wp2;go_loopw [25,26] (fun sv iv wq => ∃ (t : Nat) (Wt : World),t ≤ i ∧ sv = .int .i64 (SZ zf t) ∧ iv = .int .i64 (t : Int) ∧ Wt = wq ∧ Ext Wj Wt) (fun _ iv _ => i - (intOf iv).toNat)
       case atStart => exact ⟨0,_,by omega,rfl,rfl,rfl,Ext.refl _⟩
       case round =>
        obtain ⟨t,Wt,ht,rfl,rfl,rfl,xq⟩ := hrel
        by_cases hlt2 : t < i
        · have hdl2 : decide ((t : Int) < (i : Int)) = true := by simp;omega
          obtain ⟨qt,ct,vt,k1,k2,k3⟩ := HAT9.out t hlt2;have HK1 := hid k1;have k2w := k2.ext (xF.trans xq);have kc := HC9.ext (xF.trans xq);have HLr := hid (HLE9.out t hlt2);have HGt1 := hid (HGt.out t hlt2);have hb1 := HBt.out t hlt2;have hs1 := HSt.out t (by omega);have hs2 : (SZ zf t).natAbs ≤ 800 := by have : t * 100 ≤ 8 * 100 := Nat.mul_le_mul_right _ (by omega);omega
          clear k1 k2 hs1;go_wp2_with (first | ((with_reducible show gx0);first | (refine jag rfl rfl rfl rfl (fun _ => rfl) rfl rfl kc HCN9.out (by omega) (by omega) ?_;intro u hu;rw [Int.toNat_natCast,HK1.out] at hu;cases hu) | (refine wl_ldF rfl rfl rfl rfl (fun _ => rfl) rfl rfl k2w k3 HLr.out (by omega) (by omega) ?_;intro r0 g0;rw [Int.toNat_natCast] at g0;have G0 := hid (g0.trans HGt1.out);clear g0)) | ((with_reducible show gx4);refine wl_convI (z := zf t) rfl rfl rfl (by kernel_rfl) (by kernel_rfl) G0.out (by omega) ?_) | fail);go_roundw
          case rel => exact ⟨t + 1,_,by omega,by go_num,by go_num,rfl,xq⟩
          case measure => simp [intOf];omega
        · obtain rfl : t = i := by omega
          obtain ⟨S,hS⟩ : ∃ S,SZ zf t = S := ⟨_,rfl⟩;have hs1 := HSt.out t (Nat.le_refl _);have hSb : S.natAbs ≤ 800 := by rw [← hS];have : t * 100 ≤ 8 * 100 := Nat.mul_le_mul_right _ (by omega);omega
          rw [hS] at HGa HGb HGc ⊢;have HGA := hid HGa.out;have HGB := hid HGb.out;have HGC := hid HGc.out;have HLa := hid (HLN9.out 0);have HLb := hid (HLN9.out 1);have HLc := hid (HLN9.out 2);have Ka2 := A2.out;have Kb2 := B2.out;have Kc2 := C2.out;have hOO := gz_order S;have hSS : (S != S) = false := bne_f rfl;have hdl3 : decide ((t : Int) < (t : Int)) = false := by simp
          clear hs1 hS;go_wp2;have eD := Ext.drew Wt;have xA := xw.trans (xq.trans eD);have ka := Ka1.ext xA;have kb := Kb1.ext xA;have kc := Kc1.ext xA;refine jab (F := fun _ _ _ => False) (by kernel_rfl) (by kernel_rfl) (by kernel_rfl) ?_;intro wf hwf
          repeat (first
           | ((first | (refine jav rfl ?_) | (refine x_mv rfl rfl rfl ?_) | (refine x_as rfl rfl rfl ?_) | ((with_reducible show gx1);first | (refine x_ldF rfl rfl (fun _ => rfl) rfl (fun _ => rfl) rfl rfl ka Ka2 HLa.out (by omega) (by omega) ?_;intro r1 g1;rw [Int.toNat_natCast] at g1;obtain rfl := gz_of (g1.trans HGA.out)) | (refine x_ldF rfl rfl (fun _ => rfl) rfl (fun _ => rfl) rfl rfl kb Kb2 HLb.out (by omega) (by omega) ?_;intro r1 g1;rw [Int.toNat_natCast] at g1;obtain rfl := gz_of (g1.trans HGB.out)) | (refine x_ldF rfl rfl (fun _ => rfl) rfl (fun _ => rfl) rfl rfl kc Kc2 HLc.out (by omega) (by omega) ?_;intro r1 g1;rw [Int.toNat_natCast] at g1;obtain rfl := gz_of (g1.trans HGC.out))) | ((with_reducible show gx16);refine x_convI (z := S) rfl rfl rfl (by kernel_rfl) (by kernel_rfl) (cn_gz S) (by omega) ?_));simp only [Act.put,jai,pu1,pu2,pu3,pu4,pu5])
           | (refine x_run rfl fun K hK w1 hw1 => ?_;go_simp;refine hK _ ?_;clear hK K  hw1 w1))
          refine x_nil ?_;have xB := xA.trans hwf;have hwf0 := hwf;clear ka kb kc;obtain ⟨q0,c0,v0,k01,k02,k03⟩ := HAT10.out 0 hn1;obtain ⟨f,hfe⟩ : ∃ f,f = j % t := ⟨_,rfl⟩;have hf : f < t := by rw [hfe];exact Nat.mod_lt _ (by omega)
          have HM := hid (show ((j : Int) % (t : Int)) = ((f : Nat) : Int) from by rw [hfe,Int.natCast_emod]);have Hgi := hid (fun i => show (j + i) % t = (f + i) % t from by rw [hfe,Nat.mod_add_mod]);obtain ⟨qf2,cf2,vf2,kf1,kf2,kf3⟩ := HAT10.out f hf;have HK0 := hid k01;have HKf := hid kf1;have HL0 := hid (HLE10.out 0 hn1);have HLf := hid (HLE10.out f hf);have HZX := hid (HZ10.out j hlt);have hzx : (redF 2 D10).getD j 0 = sumK D10 f j (t - 1) := by rw [HZX.out,hfe]
          have HZx := hid hzx;have HXx := hid (HX10.out j hlt);have k02w := k02.ext (eA.trans xB);have kf2w := kf2.ext (eA.trans xB);have kcw := HC10.ext (eA.trans xB);clear k01 kf1 hfe hzx k02 kf2;go_wp2_with (first | ((with_reducible show gx0);first | (refine jag rfl rfl rfl rfl (fun _ => rfl) rfl rfl kcw HCN10.out ?_ ?_ ?_;(focus omega);(focus omega);intro u hu;replace hu := HK0.out.symm.trans hu;cases hu) | (refine jag rfl rfl rfl rfl (fun _ => rfl) rfl rfl kcw HCN10.out ?_ ?_ ?_;(focus (rw [HM.out];omega));(focus (rw [HM.out];omega));intro u hu;rw [HM.out,Int.toNat_natCast] at hu;replace hu := HKf.out.symm.trans hu;cases hu) | (refine wl_ldF rfl rfl rfl rfl (fun _ => rfl) rfl rfl k02w k03 HL0.out (by omega) (by omega) ?_;intro r0 g0;rw [Int.toNat_natCast] at g0;have G0 := hid g0;clear g0) | (refine wl_ldF rfl rfl rfl rfl (fun _ => rfl) rfl rfl kf2w kf3 HLf.out (by omega) (by omega) ?_;intro rf gf;rw [Int.toNat_natCast] at gf;have Gf := hid gf;clear gf)) | fail);clear kcw k02w kf2w k03 kf3;have hHZ0 := fun g (hg : g < t) => HAT10.out g hg
          go_wp2;go_loopw [27,28,29] (fun lv rv iv wq => ∃ (u r1 r2 : Nat) (Wu : World),1 ≤ u ∧ u ≤ t ∧ iv = .int .i64 (u : Int) ∧ lv = .float .f32 r1 ∧ rv = .float .f32 r2 ∧ Wu = wq ∧ Hid (cn .f32 r1 = sumK D10 0 j (u - 1)) ∧ Hid (cn .f32 r2 = sumK D10 f j (u - 1)) ∧ Ext wf Wu) (fun _ _ iv _ => t - (intOf iv).toNat)
          case atStart => exact ⟨1,r0,rf,_,by omega,hn1,rfl,rfl,rfl,rfl,hid G0.out,hid Gf.out,Ext.refl _⟩
          case round =>
           obtain ⟨u,r1,r2,Wu,hu1,hu,rfl,rfl,rfl,rfl,HR,HRf,xu⟩ := hrel
           by_cases hlt3 : u < t
           · obtain ⟨g,hge⟩ : ∃ g,g = (f + u) % t := ⟨_,rfl⟩
             have hg : g < t := by rw [hge];exact Nat.mod_lt _ (by omega)
             have h0 : (j + u) % t = g := by rw [hge,Hgi.out]
             have HGm := hid (show (((j : Nat) : Int) + (u : Int)) % (t : Int) = ((g : Nat) : Int) from by rw [← h0,Int.natCast_emod,Int.natCast_add]);have hs0 := HSS.out 0 j (u - 1);rw [show 0 + (u - 1) + 1 = u by omega,show u - 1 + 1 = u by omega,Nat.mod_eq_of_lt hlt3] at hs0;have hsf := HSS.out f j (u - 1);rw [show f + (u - 1) + 1 = f + u by omega,show u - 1 + 1 = u by omega,← hge] at hsf;have HS0 := hid hs0;have HSf := hid hsf;obtain ⟨qa1,ca1,va1,a1,a2,a3⟩ := hHZ0 u hlt3;obtain ⟨qb1,cb1,vb1,b1,b2,b3⟩ := hHZ0 g hg;have HA1 := hid a1;have HB1 := hid b1;have HLa1 := hid (HLE10.out u hlt3);have HLb1 := hid (HLE10.out g hg);have xC := eA.trans (xB.trans xu);have a2w := a2.ext xC;have b2w := b2.ext xC;have kcw := HC10.ext xC;clear a1 b1 a2 b2 h0 hs0 hsf hge;go_wp2_with (first | ((with_reducible show gx0);first | (refine jag rfl rfl rfl rfl (fun _ => rfl) rfl rfl kcw HCN10.out ?_ ?_ ?_;(focus omega);(focus omega);intro u9 h9;rw [Int.toNat_natCast] at h9;replace h9 := HA1.out.symm.trans h9;cases h9) | (refine jag rfl rfl rfl rfl (fun _ => rfl) rfl rfl kcw HCN10.out ?_ ?_ ?_;(focus (rw [HGm.out];omega));(focus (rw [HGm.out];omega));intro u9 h9;rw [HGm.out,Int.toNat_natCast] at h9;replace h9 := HB1.out.symm.trans h9;cases h9) | (refine wl_ldF rfl rfl rfl rfl (fun _ => rfl) rfl rfl a2w a3 HLa1.out (by omega) (by omega) ?_;intro r5 g5;rw [Int.toNat_natCast] at g5;have G5 := hid g5;clear g5) | (refine wl_ldF rfl rfl rfl rfl (fun _ => rfl) rfl rfl b2w b3 HLb1.out (by omega) (by omega) ?_;intro r6 g6;rw [Int.toNat_natCast] at g6;have G6 := hid g6;clear g6)) | ((with_reducible show gx3);refine wl_fop rfl rfl rfl rfl rfl ?_;first | (have zz := G7;intro r8 w8 e8 g8;have G8 := hid g8;clear g8 zz) | (intro r7 w7 e7 g7;have G7 := hid g7;clear g7;replace kcw := kcw.ext e7;replace b2w := b2w.ext e7)) | fail);go_roundw
             case rel =>
              exact ⟨u + 1,r7,r8,_,by omega,by omega,by go_num,rfl,rfl,rfl,by rw [Hid,show u + 1 - 1 = u by omega,HS0.out,G7.out,HR.out,G5.out],by rw [Hid,show u + 1 - 1 = u by omega,HSf.out,G8.out,HRf.out,G6.out],xu.trans (e7.trans e8)⟩
             case measure => simp [intOf];omega
           · obtain rfl : u = t := by omega
             have xC := xB.trans xu;have kd := Kd1.ext xC;have Kd2 := D2.out;have Kf2 := F2.out;have HLd := hid (HLN10.out 0);have HLf2 := hid (HLN10.out 2);obtain ⟨rz,hz1,hz2⟩ := Kf2.2 j (by rw [HLf2.out];exact hlt);have HZ1 := hid hz1;have HZ2 := hid hz2;have HVf := hid (Kf2.1.trans HLf2.out);clear hz1 hz2 Kf2;go_wp2_with (first | ((with_reducible show gx0);refine wl_ldF rfl rfl rfl rfl (fun _ => rfl) rfl rfl kd Kd2 HLd.out (by omega) (by omega) ?_;intro rx gx;rw [Int.toNat_natCast] at gx;have GX := hid gx;clear gx) | fail);refine (same_t r1 rx _ (by rw [HR.out,GX.out,HXx.out]) (by rw [GX.out,HXx.out];exact HSL.out _ _ _)).mono ?_;rintro e w7 ⟨u7,rfl,e7,rfl⟩
             have kf := Kf1.ext (xC.trans e7);go_wp2_with (first | ((with_reducible show gx0);refine lReduceLists.wl_idxloadW (j := j) (by first | rfl | (go_simp;done)) rfl (fun _ => by first | rfl | (go_simp;done)) rfl (fun _ => rfl) rfl rfl rfl kf HVf.out hlt HZ1.out ?_) | fail);refine (same_t r2 rz _ (by rw [HRf.out,HZ2.out,HZx.out]) (by rw [HZ2.out,HZx.out];exact HSL.out _ _ _)).mono ?_;rintro e w8 ⟨u8,rfl,e8,rfl⟩
             go_wp2;go_roundw
             case rel => exact ⟨j + 1,_,by omega,by go_num,rfl,xw.trans (xq.trans (eD.trans (hwf0.trans (xu.trans (e7.trans e8)))))⟩
             case measure => simp [intOf];omega
     · obtain rfl : j = m := by omega
       have xF := (((hE2.trans e3).trans e3W).trans x4).trans (eA.trans xw)
       by_cases h2 : 2 < i
       · have d2 : decide ((2 : Int) < (i : Int)) = true := by simp;omega
         go_wp2;go_ret;exact ⟨rfl,xF⟩
       · have d2 : decide ((2 : Int) < (i : Int)) = false := by simp;omega
         have kd := Kd1.ext xw;have ke := Ke1.ext xw;have kf := Kf1.ext xw;have Kd2 := D2.out;have Ke2 := E2.out;have Kf2 := F2.out;rw [HR1.out 1 (by omega)] at Ke2;rw [HR1.out 2 (by omega)] at Kf2;have HLd := HLN10.out 0;have hm9 := hj;go_wp2_with fail;refine (r8Same_any qd qe _ cd ce vd ve (redF 0 D10) _ HLd (by omega) kd Kd2 ke Ke2 HRL.out).mono ?_;rintro e wB ⟨rfl,eB⟩
         go_wp2_with fail;refine (r8Same_any qd qf _ cd cf vd vf (redF 0 D10) _ HLd (by omega) (kd.ext eB) Kd2 (kf.ext eB) Kf2 HRL.out).mono ?_;rintro e wC ⟨rfl,eC⟩
         go_wp2;go_ret;exact ⟨rfl,xF.trans (eB.trans eC)⟩
end Go.Proofs.Ytmbckkcgiafagaa.lReduced
namespace Go.Proofs.Ytmbckkcgiafagaa
open Go.RowKit Go.WideShapes Go.Deep Go.ChangeShapes
theorem open_bytes {H : Type} {enc : TypeId × Value → H} {P : Program} {w : World} {base : Nat} {spare : Nat → Bool} {held : Bool} {r : Reach} {b0 : Nat} {t e : TypeId} {v : Value} {d : DataW H} {ps : List MemPlace} (ht : P.underlying t = some (.slice e)) (he : P.underlying e = some (.int .u8)) (hce : P.cellsOf e = 1)
 (hval : Value.okWide P w r b0 t v) (hd : DataW.Trod enc P w base spare held t v d ps) :
 ∃ (p : Option Addr) (n c : Nat) (bs : List Nat),v = .slice p n c ∧ Cs w p (u8s bs) ∧ bs.length = n ∧ ∀ b ∈ bs,b < 256 := by
 obtain ⟨p0,n0,c0,rfl⟩ := okWide_slice ht hval;obtain ⟨fuel,hx⟩ := hd
 cases fuel with
 | zero => simp [DataW.trod] at hx
 | succ k =>
   rcases open_slice ht hx with ⟨hv,_⟩ | ⟨a,ln,cp,m,n',D,Pl,hv,_,hl,hm,hmm,_,hel⟩
   · cases hv
     exact ⟨none,0,0,[],rfl,Cs.nil w none,rfl,fun b hb => by simp at hb⟩
   · have hv : [Value.slice p0 n0 c0] = [.slice (some a) ln cp] := hv
     injection hv with hv _
     injection hv with e1 e2 e3
     subst e1;subst e2;subst e3;have hlm : n0 ≤ m := by rw [hmm];split <;> omega
     obtain ⟨l,hl1,hl2⟩ := choose_list (A := Nat) (R := fun i b => w.cell? (a.add i) = some (.int .u8 (b : Int)) ∧ b < 256) n0 (fun i hi => by
      obtain ⟨cs',h1,h2⟩ := hel i (by omega);obtain ⟨z,rfl,_,hw⟩ := DataW.trod_int he h2;rw [hce,Nat.mul_one] at h1;obtain ⟨_,_,h6⟩ := World.cells?_some h1;have h7 := h6 0 (by omega);rw [Go.Proofs.Ytmbckkcgiafagaa.add_add,Nat.add_zero] at h7;simp only [Lit.wf,Bool.and_eq_true,decide_eq_true_eq] at hw;have hw1 : 0 ≤ z ∧ z ≤ 255 := hw;refine ⟨z.toNat,?_,by omega⟩;rw [h7,Int.toNat_of_nonneg hw1.1];rfl)
     refine ⟨some a,n0,c0,l,rfl,⟨fun i u hu => ?_,fun _ => rfl⟩,hl1,fun b hb => ?_⟩
     · unfold u8s at hu
       rw [List.getElem?_map] at hu
       cases hli : l[i]? with
       | none => rw [hli] at hu;simp at hu
       | some b => rw [hli] at hu;simp at hu;subst hu;exact (hl2 i b hli).1
     · obtain ⟨i,hi,rfl⟩ := List.mem_iff_getElem.1 hb
       exact (hl2 i _ (by simp)).2
end Go.Proofs.Ytmbckkcgiafagaa
