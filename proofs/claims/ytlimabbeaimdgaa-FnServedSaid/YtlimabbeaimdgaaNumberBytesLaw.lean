/- The law FnNumberBytes answers true at every input: the walk. -/
import Derived.Test.YtlimabbeaimdgaaNBy
namespace Go.Proofs.Ytlimabbeaimdgaa.lNumberBytes
set_option linter.unusedSimpArgs false
set_option linter.unusedVariables false
open Go.RowKit lBytesNumbers lArchiveOf

section
variable {P : Program} {w : World} {ops : Array Oper} {rest : List Oper} {o : Oper} {a : Act} {Q : Exit → Act → World → Prop}
theorem wl_sadd {t t' : TypeId} {x y : Operand} {s1 s2 : ByteArray} (hg : o.guard = none) (ho : o.op = .binOp .add t x y t') (hx : a.eval x = .string s1) (hy : a.eval y = .string s2) (hs : s1.size + s2.size ≤ 9223372036854775807)
    (h : wpList P ops Q rest (a.put o.dst (.string (s1 ++ s2))) w) : wpList P ops Q (o :: rest) a w :=
  wl_value hg (by simp [execOp, ho, hx, hy, binOp, eqGuard_arith (op := .add) rfl, run_string_add_sum w s1 s2 hs]) h
end

set_option maxRecDepth 100000 in
set_option maxHeartbeats 1000000 in
theorem r8Long_any (p q : Option Addr) (n c m d : Nat) (w : World) : Calls Try.prog 27 #[.slice p n c, .slice q m d] w fun e w' => e = .returned (.bool (decide (48 < n) || decide (48 < m))) ∧ w = w' := by
  by_cases h : 48 < n
  · have h1 : decide (48 < n) = true := decide_eq_true h
    go_enter Try.func27, Try.ntmps27
    go_wp2
    go_ret
    exact ⟨by simp [h], rfl⟩
  · by_cases h2 : 48 < m
    · go_enter Try.func27, Try.ntmps27
      go_wp2
      go_ret
      exact ⟨by first | (simp [h, h2]; done) | (simp [h, h2]; omega), rfl⟩
    · go_enter Try.func27, Try.ntmps27
      go_wp2
      go_ret
      exact ⟨by first | (simp [h, h2]; done) | (simp [h, h2]; omega), rfl⟩
theorem w64 {z : Int} {b : Nat} (h1 : 0 ≤ z) (h2 : z < 281474976710656) (h4 : b < 256) : wrap64 (z * 256 + (b : Int)) = (b : Int) + 256 * z := by
  unfold wrap64; omega
theorem app_x (l : List UInt8) : (⟨l.toArray⟩ : ByteArray) ++ ByteArray.mk #[120] = ⟨(l ++ [120]).toArray⟩ := ba_app l [120]
theorem app_n (l : List UInt8) : (⟨l.toArray⟩ : ByteArray) ++ ByteArray.mk #[1, 0, 192, 127] = ⟨(l ++ [1, 0, 192, 127]).toArray⟩ := ba_app l [1, 0, 192, 127]
set_option maxRecDepth 100000 in
set_option maxHeartbeats 4000000 in
theorem law_any (p0 q0 : Option Addr) (n0 c0 m0 d0 : Nat) (bs ms : List Nat) (w : World) (hc0 : Cs w p0 (u8s bs)) (hl0 : bs.length = n0) (hb0 : ∀ b ∈ bs, b < 256) (hd0 : Cs w q0 (u8s ms)) (hm0 : ms.length = m0) (hb1 : ∀ b ∈ ms, b < 256) :
    Calls Try.prog 5 #[.slice p0 n0 c0, .slice q0 m0 d0] w fun e w' => e = .returned (.bool true) ∧ Ext w w' := by
  go_enter Try.func5, Try.ntmps5
  go_wp2_with fail
  refine (r8Long_any _ _ _ _ _ _ _).mono ?_
  rintro e w1 ⟨rfl, rfl⟩
  by_cases hlong : 48 < n0 ∨ 48 < m0
  · have hd : (decide (48 < n0) || decide (48 < m0)) = true := by simpa using hlong
    rw [hd]
    go_wp2
    go_ret
    exact ⟨rfl, Ext.refl _⟩
  have hn0 : n0 ≤ 48 := by omega
  have hd : (decide (48 < n0) || decide (48 < m0)) = false := by simp; omega
  rw [hd]
  clear hd hlong
  go_wp2_with fail
  refine (R8Numbers_any p0 n0 c0 bs 10 _ hc0 hl0 (by omega) hb0 (by omega)).mono ?_
  rintro e w1 ⟨N, hN, xs, hx, hxb, q, c, vs, rfl, ho, hv, e1⟩
  have hcan := can_of hv hxb
  have hcap := own_cap ho
  have hRep : Rep w1 (.sl .flt) [.slice q xs.length c] xs := rep_flts.2 ⟨q, c, vs, rfl, own_Cs ho, hv, hcap.1, hcap.2⟩
  have hc := own_Cs ho
  have hres : lNumbersBytes.res xs = (⟨(bytesOf xs).toArray⟩, true) := by unfold lNumbersBytes.res; rw [if_pos (by omega)]
  have C1 := lNumbersBytes.impl_ok [.slice q xs.length c] xs w1 hRep
  rw [hres] at C1
  have hlen := bytesOf_length xs
  have C2 := hid (fun W => impl_l (bytesOf xs) W (by omega))
  have C3 := hid (fun W => impl_l (bytesOf xs ++ [120]) W (by rw [List.length_append, hlen]; simp; omega))
  have C4 := hid (fun W => impl_l (bytesOf xs ++ [1, 0, 192, 127]) W (by rw [List.length_append, hlen]; simp; omega))
  rw [res_back xs hcan (by omega)] at C2
  rw [res_more] at C3
  rw [res_nan] at C4
  have HAT := hid (fun i hi => bytes_at xs i hi)
  have HXL := hid hx
  simp only [ofCs, Sh.agg, List.headD_cons, Bool.false_eq_true, if_false] at C1
  rw [hx] at C1 ⊢
  clear hres hRep ho hcap hx
  generalize bytesOf xs = L at *
  have HLL := hid (hlen.trans (by rw [HXL.out] : 4 * xs.length = 4 * N))
  clear hlen
  have hsz : (⟨L.toArray⟩ : ByteArray).size = 4 * N := by rw [ba_size]; exact HLL.out
  go_wp2_with fail
  refine C1.mono ?_
  rintro e w2 ⟨rfl, e2⟩
  go_wp2_with fail
  refine (C2.out w2).mono ?_
  rintro e w3 ⟨cs3, bs3, rfl, o3, _, _, e3⟩
  obtain ⟨p3, d3, v3, rfl, q1, q2, q3, q4⟩ := rep_flts.1 o3.rep
  rw [HXL.out] at q3 ⊢
  simp only [ofCs, Sh.agg, List.headD_cons, Bool.false_eq_true, if_false]
  have e1 := (e1.trans e2).trans e3
  have hc := (hc.ext e2).ext e3
  clear e2 e3 o3 C1 C2
  go_wp2
  go_loopw [10] (fun iv wr => ∃ i : Nat, i ≤ N ∧ iv = .int .i64 i ∧ Ext w3 wr) (fun iv _ => N - (intOf iv).toNat)
  case atStart => exact ⟨0, by omega, rfl, Ext.refl _⟩
  case round =>
    obtain ⟨i, hi, rfl, he⟩ := hrel
    by_cases hlt : i < N
    · have hix : i < xs.length := by rw [HXL.out]; exact hlt
      have hat := HAT.out i hix
      obtain ⟨r1, hr1, g1⟩ := hv.get hix
      obtain ⟨r3, hr3, g3⟩ := q2.get hix
      have hxi := hcan xs[i] (by simp)
      have hgd : xs.getD i 0 = xs[i] := by simp [hix]
      rw [hgd] at g1 g3
      have hle := leN_leB hxi.1
      rw [← hat] at hle
      obtain ⟨x4, hx4⟩ : ∃ x4, x4 = (L.drop (4 * i)).take 4 := ⟨_, rfl⟩
      rw [← hx4] at hle
      have hl4 : x4.length = 4 := by rw [hx4]; simp [HLL.out]; omega
      have hget : ∀ k (hk : k < 4), ∃ h1 : k < x4.length, ∃ h2 : 4 * i + k < L.length, L[4 * i + k] = x4[k] := fun k hk => ⟨by omega, by rw [HLL.out]; omega, by subst hx4; simp⟩
      generalize xs[i] = x at *
      have HE := hid hle
      have HR1 := hid hr1
      have HR3 := hid hr3
      have HG1 := hid g1
      have HG3 := hid g3
      have HLV := hid (hv.1.trans HXL.out)
      have HLV3 := hid (q2.1.trans HXL.out)
      clear hle hr1 hr3 g1 g3 hx4 hgd hat hix
      go_wp2
      go_loopw [11, 12] (fun nv kv wr2 => ∃ (k : Nat), k ≤ 4 ∧ kv = .int .i64 ((k : Int) - 1) ∧ nv = .int .i64 (leN (x4.drop k)) ∧ wr2 = wr) (fun _ kv _ => (intOf kv + 1).toNat)
      case atStart => exact ⟨4, by omega, by go_num, by rw [List.drop_of_length_le (by omega)]; rfl, rfl⟩
      case round =>
        obtain ⟨k, hk, rfl, rfl, rfl⟩ := hrel
        cases k with
        | zero =>
          rw [show x4.drop 0 = x4 from rfl, HE.out]
          have k1 := (hc.ext he).ext (Ext.drew wr)
          have k3 := (q1.ext he).ext (Ext.drew wr)
          have hb := bne_f (rfl : (x : Int) = (x : Int))
          have C5 := hid (BitsOf_any r1)
          have C6 := hid (SameNumber_any r3 r1)
          rw [HG1.out, show bitsOf x = (x : Int) by unfold bitsOf wrap64; omega] at C5
          rw [HG1.out, HG3.out] at C6
          have HX := hid hxi.1
          obtain ⟨F, hF⟩ : ∃ F : Option Tmp → World → Value → Prop, F = fun d _ u => match d with | some 78 => u = .int .i64 (x : Int) | _ => u = .bool true := ⟨_, rfl⟩
          have HF := hid hF
          clear hF hget hl4 hxi hk
          go_wp2
          refine wp_region_xall (F := F) (by kernel_rfl) (by kernel_rfl) (by kernel_rfl) ?_
          intro wf hwf
          repeat (first
            | (refine x_skip rfl ?_; simp only [Act.put, ev_tmp, List.setIfInBounds_toArray, List.set_cons_succ, List.set_cons_zero, List.getD_cons_succ, List.getD_cons_zero])
            | (refine x_mv rfl rfl rfl ?_; simp only [Act.put, ev_tmp, List.setIfInBounds_toArray, List.set_cons_succ, List.set_cons_zero, List.getD_cons_succ, List.getD_cons_zero])
            | (refine x_as rfl rfl rfl ?_; simp only [Act.put, ev_tmp, List.setIfInBounds_toArray, List.set_cons_succ, List.set_cons_zero, List.getD_cons_succ, List.getD_cons_zero])
            | ((with_reducible show wpX _ _ _ _ _ _ (Oper.mk _ (Op.indexAddr _ _ _) _ _ _ _ :: Oper.mk _ (Op.load _ _) _ _ _ _ :: _) _); refine x_idxload rfl rfl (fun _ => rfl) rfl (fun _ => rfl) rfl rfl k1 HLV.out (by omega) (by omega) ?_; intro u hu; rw [Int.toNat_natCast, HR1.out] at hu; cases hu; simp only [Act.put, ev_tmp, List.setIfInBounds_toArray, List.set_cons_succ, List.set_cons_zero, List.getD_cons_succ, List.getD_cons_zero])
            | ((with_reducible show wpX _ _ _ _ _ _ (Oper.mk _ (Op.indexAddr _ _ _) _ _ _ _ :: Oper.mk _ (Op.load _ _) _ _ _ _ :: _) _); refine x_idxload rfl rfl (fun _ => rfl) rfl (fun _ => rfl) rfl rfl k3 HLV3.out (by omega) (by omega) ?_; intro u hu; rw [Int.toNat_natCast, HR3.out] at hu; cases hu; simp only [Act.put, ev_tmp, List.setIfInBounds_toArray, List.set_cons_succ, List.set_cons_zero, List.getD_cons_succ, List.getD_cons_zero])
            | ((with_reducible show wpX _ _ _ _ _ _ (Oper.mk _ (Op.call _) _ _ _ _ :: _) _); refine x_callf (f := 31) (args := #[.float .f32 r1]) rfl rfl Try.func31 rfl (by kernel_rfl) ?_ ?_ ?_; (focus (simp [Act.eval]; done)); (focus (intro w1 hw1; exact (by rw [HF.out]; exact (C5.out w1).mono fun e w3 h => ⟨_, h.1, by rw [← h.2]; exact Ext.refl _, rfl⟩))); rintro u w3 e3 e4 hu; simp only [HF.out] at hu; subst hu; simp only [Act.put, ev_tmp, List.setIfInBounds_toArray, List.set_cons_succ, List.set_cons_zero, List.getD_cons_succ, List.getD_cons_zero])
            | ((with_reducible show wpX _ _ _ _ _ _ (Oper.mk _ (Op.call _) _ _ _ _ :: _) _); refine x_callf (f := 32) (args := #[.float .f32 r3, .float .f32 r1]) rfl rfl Try.func32 rfl (by kernel_rfl) ?_ ?_ ?_; (focus (simp [Act.eval]; done)); (focus (intro w1 hw1; exact (by rw [HF.out]; exact (C6.out w1 HX.out HX.out).mono fun e w3 h => ⟨_, h.1, by rw [h.2]; exact Ext.refl _, by simp⟩))); rintro u w3 e3 e4 hu; simp only [HF.out] at hu; subst hu; simp only [Act.put, ev_tmp, List.setIfInBounds_toArray, List.set_cons_succ, List.set_cons_zero, List.getD_cons_succ, List.getD_cons_zero])
            | (refine x_run rfl fun K hK w1 hw1 => ?_; go_simp; refine hK _ ?_; clear hK K  hw1 w1))
          refine x_nil ?_
          have hW := (he.trans (Ext.drew wr)).trans hwf
          go_wp2
          go_roundw
          case rel => exact ⟨i + 1, by omega, by go_num, hW⟩
          case measure => simp [intOf]; omega
        | succ k =>
          obtain ⟨hk1, hk2, hk3⟩ := hget k (by omega)
          have hat := leN_at hk1
          have hbd := leN_bd (x4.drop (k + 1)) 6 (by rw [List.length_drop]; omega)
          have hb := x4[k].toNat_lt
          have h256 : (256 : Int) ^ 6 = 281474976710656 := by decide
          rw [h256] at hbd
          obtain ⟨m, hmm⟩ : ∃ m : Nat, m = 4 * i + k := ⟨_, rfl⟩
          have hm : IntKind.i64.wrap (4 * (i : Int) + (k : Int)) = (m : Int) := by rw [wrap_in _ (by omega) (by omega)]; omega
          generalize leN (x4.drop (k + 1)) = Z at *
          have hks : m < (⟨L.toArray⟩ : ByteArray).size := by rw [hsz]; omega
          have hg : wrap64 (((⟨L.toArray⟩ : ByteArray)[m]'hks).toNat : Int) = (x4[k].toNat : Int) := by
            subst hmm
            have : (⟨L.toArray⟩ : ByteArray)[4 * i + k]'hks = L[4 * i + k] := rfl
            rw [this, hk3]; unfold wrap64; omega
          clear hmm
          rw [show ((k + 1 : Nat) : Int) - 1 = (k : Int) by omega]
          go_wp2
          go_roundw
          case rel => exact ⟨k, by omega, by go_num, by rw [hat]; congr 1; exact w64 hbd.1 hbd.2 hb, trivial⟩
          case measure => first | (simp [intOf]; done) | (simp [intOf]; omega)
    · have e1 := e1.trans he
      have A3 := hid (app_x L)
      have A4 := hid (app_n L)
      have hs3 := hid (show (⟨L.toArray⟩ : ByteArray).size + (ByteArray.mk #[120]).size ≤ 9223372036854775807 by rw [show (ByteArray.mk #[120]).size = 1 from rfl]; omega)
      have hs4 := hid (show (⟨L.toArray⟩ : ByteArray).size + (ByteArray.mk #[1, 0, 192, 127]).size ≤ 9223372036854775807 by rw [show (ByteArray.mk #[1, 0, 192, 127]).size = 4 from rfl]; omega)
      clear hsz HAT
      go_wp2_with (first | ((with_reducible show wpList _ _ _ (Oper.mk _ (Op.binOp _ _ _ _ _) _ _ _ _ :: _) _ _); refine wl_sadd (s1 := ⟨L.toArray⟩) (s2 := ByteArray.mk #[120]) rfl rfl rfl rfl hs3.out ?_; rw [A3.out]) | fail)
      refine (C3.out wr).mono ?_
      rintro e w4 ⟨cs4, bs4, rfl, _, _, _, e4⟩
      go_wp2_with (first | ((with_reducible show wpList _ _ _ (Oper.mk _ (Op.binOp _ _ _ _ _) _ _ _ _ :: _) _ _); refine wl_sadd (s1 := ⟨L.toArray⟩) (s2 := ByteArray.mk #[1, 0, 192, 127]) rfl rfl rfl rfl hs4.out ?_; rw [A4.out]) | fail)
      refine (C4.out w4).mono ?_
      rintro e w5 ⟨cs5, bs5, rfl, _, _, _, e5⟩
      go_wp2
      go_ret
      exact ⟨rfl, (e1.trans e4).trans e5⟩
end Go.Proofs.Ytlimabbeaimdgaa.lNumberBytes
