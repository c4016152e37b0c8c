/- The source of drawn numbers. -/
import Derived.Test.YtlimabbeaimdgaaCpyM
import Derived.Test.YtlimabbeaimdgaaKf
namespace Go.Proofs.Ytlimabbeaimdgaa
set_option linter.unusedSimpArgs false
set_option linter.unusedVariables false
open Go.RowKit

/-- A source: at most K numbers were drawn, and another block holds its bytes. -/
def DrAt (w : World) (sb K : Nat) : Prop :=
  ∃ (p : Option Addr) (n c at' : Nat) (sd : Int) (bs : List Nat), HB w sb #[.slice p n c, .int .i64 (at' : Int), .int .u64 sd] 182 ∧ Cs w p (bs.map fun (b : Nat) => Value.int .u8 (b : Int)) ∧ bs.length = n ∧ n ≤ 1048576 ∧ (∀ b ∈ bs, b < 256) ∧ at' ≤ K ∧ 0 ≤ sd ∧ sd < 18446744073709551616 ∧ ((bs.map fun (b : Nat) => Value.int .u8 (b : Int)) ≠ [] → ∀ a, p = some a → a.block < sb)
theorem DrAt.mono {w : World} {sb K K' : Nat} (h : DrAt w sb K) (k : K ≤ K') : DrAt w sb K' := by
  obtain ⟨p, n, c, a, sd, bs, h1, h2, h3, h4, h5, h6, h7⟩ := h
  exact ⟨p, n, c, a, sd, bs, h1, h2, h3, h4, h5, Nat.le_trans h6 k, h7⟩
theorem DrAt.ext {w w' : World} {sb K : Nat} (h : DrAt w sb K) (e : Ext w w') : DrAt w' sb K := by
  obtain ⟨p, n, c, a, sd, bs, h1, h2, h3, h4, h5, h6, h7⟩ := h
  exact ⟨p, n, c, a, sd, bs, h1.ext e, h2.ext e, h3, h4, h5, h6, h7⟩
theorem DrAt.lt {w : World} {sb K : Nat} (h : DrAt w sb K) : sb < w.heap.size := by
  obtain ⟨p, n, c, a, sd, bs, h1, _⟩ := h
  exact h1.lt
theorem DrAt.chg {S : Nat → Prop} {w w' : World} {sb K : Nat} (h : DrAt w sb K) (k : Chg S w w') (hS : ∀ b, S b → sb < b) : DrAt w' sb K := by
  have hlt := h.lt
  obtain ⟨p, n, c, a, sd, bs, h1, h2, h3, h4, h5, h6, h7, h8, h9⟩ := h
  refine ⟨p, n, c, a, sd, bs, h1.chg k (fun h => by have := hS _ h; omega), ?_, h3, h4, h5, h6, h7, h8, h9⟩
  refine h2.keep fun hn => ?_
  have hp1 := h2.isS hn
  obtain ⟨q, rfl⟩ := Option.isSome_iff_exists.1 hp1
  have hb := h9 hn q rfl
  have ha : (adr (some q) 0).block = q.block := by rw [adr_some]; unfold Addr.add; split <;> rfl
  rw [ha]
  exact k.block _ (by omega) (fun h => by have := hS _ h; omega)
theorem wrap_u64_bd (x : Int) : 0 ≤ IntKind.u64.wrap x ∧ IntKind.u64.wrap x < 18446744073709551616 := by
  rw [IntKind.wrap_u64]; omega
theorem cs_chg_lt {w w' : World} {sb : Nat} {p : Option Addr} {us : List Value} (h : Cs w p us) (k : Chg (fun b => b = sb) w w') (hp : us ≠ [] → ∀ a, p = some a → a.block < sb) (hs : sb < w.heap.size) : Cs w' p us := by
  cases us with
  | nil => exact Cs.nil _ _
  | cons u us =>
    have hp1 := h.isS (by simp)
    obtain ⟨a, rfl⟩ := Option.isSome_iff_exists.1 hp1
    have hb := hp (by simp) a rfl
    refine ⟨fun i v hv => ?_, h.isS⟩
    have h1 := h.cell i v hv
    have ha : (adr (some a) i).block = a.block := by rw [adr_some]; unfold Addr.add; split <;> rfl
    unfold World.cell? at h1 ⊢
    rw [k.block _ (by rw [ha]; omega) (by rw [ha]; omega)]
    exact h1
set_option maxRecDepth 100000 in
set_option maxHeartbeats 4000000 in
theorem drNext_any (sb K : Nat) (w : World) (h : DrAt w sb K) (hK : K ≤ 1000000000) : Calls Try.prog 136 #[.pointer (some ⟨sb, 0, none⟩)] w fun e w' => ∃ x : Nat, e = .returned (.int .i64 (x : Int)) ∧ x < 256 ∧ DrAt w' sb (K + 1) ∧ Chg (fun k => k = sb) w w' := by
  obtain ⟨p, n, c, at', sd, bs, h1, h2, h3, h4, h5, h6, h7, h8, h9⟩ := h
  have k0 := h1.cell 0 rfl; have k1 := h1.cell 1 rfl; have k2 := h1.cell 2 rfl
  have m0 := h1.froz 0; have m1 := h1.froz 1; have m2 := h1.froz 2
  have hl : (bs.map fun (b : Nat) => Value.int .u8 (b : Int)).length = n := by simp [h3]
  have Hl := hid hl
  have H5 := hid h5
  have H3 := hid h3
  clear hl
  have h0 := hid h2
  have HLT := hid h9
  have HL2 := hid h1.lt
  by_cases hat : at' < n
  · have hb : at' < bs.length := by omega
    have hbv : (bs.map fun (b : Nat) => Value.int .u8 (b : Int))[at']? = some (.int .u8 ((bs[at']'hb : Nat) : Int)) := by simp [hb]
    have hb256 := h5 bs[at'] (by simp)
    generalize hbb : bs[at'] = bb at *
    have wb : IntKind.i64.wrap (bb : Int) = (bb : Int) := wrap_in _ (by omega) (by omega)
    have Hbv := hid hbv
    clear hbv hbb h3 h5
    go_enter Try.func136, Try.ntmps136
    go_wp2
    have d0 := (Ext.drew w).cell k0; have d1 := (Ext.drew w).cell k1
    refine wp_region_xall (F := fun _ _ _ => False) (by kernel_rfl) (by kernel_rfl) (by kernel_rfl) ?_
    intro wf hwf
    repeat (first
      | (refine x_skip rfl ?_; simp only [Act.put, ev_tmp, List.setIfInBounds_toArray, List.set_cons_succ, List.set_cons_zero, List.getD_cons_succ, List.getD_cons_zero])
      | (refine x_mv rfl rfl rfl ?_; simp only [Act.put, ev_tmp, List.setIfInBounds_toArray, List.set_cons_succ, List.set_cons_zero, List.getD_cons_succ, List.getD_cons_zero])
      | (refine x_as rfl rfl rfl ?_; simp only [Act.put, ev_tmp, List.setIfInBounds_toArray, List.set_cons_succ, List.set_cons_zero, List.getD_cons_succ, List.getD_cons_zero])
      | (refine x_run rfl fun K hK w1 hw1 => ?_; have k0 := hw1.cell (d0); have k1 := hw1.cell (d1); go_simp; refine hK _ ?_; clear hK K k0 k1 hw1 w1))
    refine x_nil ?_
    have b2 := (h1.ext (Ext.drew w)).ext hwf
    have k0 := b2.cell 0 rfl; have k1 := b2.cell 1 rfl; have k2 := b2.cell 2 rfl
    have m0 := b2.froz 0; have m1 := b2.froz 1; have m2 := b2.froz 2
    go_wp2
    have b3 := b2.ext (Ext.drew _)
    have d0 := b3.cell 0 rfl; have d1 := b3.cell 1 rfl
    have h2 := h2.ext ((Ext.drew w).trans (hwf.trans (Ext.drew _)))
    refine wp_region_xall (F := fun _ _ _ => False) (by kernel_rfl) (by kernel_rfl) (by kernel_rfl) ?_
    intro wf2 hwf2
    repeat (first
      | (refine x_skip rfl ?_; simp only [Act.put, ev_tmp, List.setIfInBounds_toArray, List.set_cons_succ, List.set_cons_zero, List.getD_cons_succ, List.getD_cons_zero])
      | (refine x_mv rfl rfl rfl ?_; simp only [Act.put, ev_tmp, List.setIfInBounds_toArray, List.set_cons_succ, List.set_cons_zero, List.getD_cons_succ, List.getD_cons_zero])
      | (refine x_as rfl rfl rfl ?_; simp only [Act.put, ev_tmp, List.setIfInBounds_toArray, List.set_cons_succ, List.set_cons_zero, List.getD_cons_succ, List.getD_cons_zero])
      | ((with_reducible show wpX _ _ _ _ _ _ (Oper.mk _ (Op.indexAddr _ _ _) _ _ _ _ :: Oper.mk _ (Op.load _ _) _ _ _ _ :: _) _); refine x_idxload rfl rfl (fun _ => rfl) rfl (fun _ => rfl) rfl rfl h2 Hl.out (by omega) (by omega) ?_; intro u hu; rw [Int.toNat_natCast, Hbv.out] at hu; cases hu; simp only [Act.put, ev_tmp, List.setIfInBounds_toArray, List.set_cons_succ, List.set_cons_zero, List.getD_cons_succ, List.getD_cons_zero])
      | (refine x_run rfl fun K hK w1 hw1 => ?_; have k0 := hw1.cell (d0); have k1 := hw1.cell (d1); go_simp; refine hK _ ?_; clear hK K k0 k1 hw1 w1))
    refine x_nil ?_
    have b4 := b3.ext hwf2
    have k0 := b4.cell 0 rfl; have k1 := b4.cell 1 rfl; have k2 := b4.cell 2 rfl
    have m0 := b4.froz 0; have m1 := b4.froz 1; have m2 := b4.froz 2
    clear d0 d1
    go_wp2
    generalize hX : IntKind.u64.wrap (IntKind.u64.wrap (IntKind.u64.wrap (sd * 6364136223846793005) + (bb : Int)) + 1442695040888963407) = X at *
    have hXb : 0 ≤ X ∧ X < 18446744073709551616 := by rw [← hX]; exact wrap_u64_bd _
    clear hX
    have b5 : HB ((wf2.setCell ⟨sb, 1, none⟩ (.int .i64 ((at' : Int) + 1))).setCell ⟨sb, 2, none⟩ (.int .u64 X)) sb #[.slice p n c, .int .i64 ((at' : Int) + 1), .int .u64 X] 182 := (b4.set 1 _).set 2 _
    have ch : Chg (fun k => k = sb) w ((wf2.setCell ⟨sb, 1, none⟩ (.int .i64 ((at' : Int) + 1))).setCell ⟨sb, 2, none⟩ (.int .u64 X)) := Chg.mono (((Chg.of_ext (S := fun k => sb = k) ((Ext.drew w).trans (hwf.trans ((Ext.drew _).trans hwf2)))).setCell (p := ⟨sb, 1, none⟩) rfl _).setCell (p := ⟨sb, 2, none⟩) rfl _) (fun k h => h.symm)
    have hs : Cs ((wf2.setCell ⟨sb, 1, none⟩ (.int .i64 ((at' : Int) + 1))).setCell ⟨sb, 2, none⟩ (.int .u64 X)) p (bs.map fun (b : Nat) => Value.int .u8 (b : Int)) := cs_chg_lt h0.out ch HLT.out HL2.out
    clear k0 k1 k2 m0 m1 m2
    generalize ((wf2.setCell ⟨sb, 1, none⟩ (.int .i64 ((at' : Int) + 1))).setCell ⟨sb, 2, none⟩ (.int .u64 X)) = W2 at *
    have b6 := b5.ext (Ext.drew W2)
    have d0 := b6.cell 0 rfl; have d1 := b6.cell 1 rfl
    refine wp_region_xall (F := fun _ _ _ => False) (by kernel_rfl) (by kernel_rfl) (by kernel_rfl) ?_
    intro wf3 hwf3
    repeat (first
      | (refine x_skip rfl ?_; simp only [Act.put, ev_tmp, List.setIfInBounds_toArray, List.set_cons_succ, List.set_cons_zero, List.getD_cons_succ, List.getD_cons_zero])
      | (refine x_mv rfl rfl rfl ?_; simp only [Act.put, ev_tmp, List.setIfInBounds_toArray, List.set_cons_succ, List.set_cons_zero, List.getD_cons_succ, List.getD_cons_zero])
      | (refine x_as rfl rfl rfl ?_; simp only [Act.put, ev_tmp, List.setIfInBounds_toArray, List.set_cons_succ, List.set_cons_zero, List.getD_cons_succ, List.getD_cons_zero])
      | (refine x_run rfl fun K hK w1 hw1 => ?_; have k0 := hw1.cell (d0); have k1 := hw1.cell (d1); go_simp; refine hK _ ?_; clear hK K k0 k1 hw1 w1))
    refine x_nil ?_
    have E3 := (Ext.drew W2).trans hwf3
    have b7 := b5.ext E3
    clear d0 d1 b6
    have hle : decide ((at' : Int) + 1 ≤ (n : Int)) = true := by simp; omega
    go_wp2
    go_ret
    exact ⟨bb, rfl, hb256, ⟨p, n, c, at' + 1, X, bs, b7, hs.ext E3, H3.out, h4, H5.out, by omega, hXb.1, hXb.2, h9⟩, ch.trans (.of_ext E3)⟩
  · go_enter Try.func136, Try.ntmps136
    go_wp2
    have d0 := (Ext.drew w).cell k0; have d1 := (Ext.drew w).cell k1
    refine wp_region_xall (F := fun _ _ _ => False) (by kernel_rfl) (by kernel_rfl) (by kernel_rfl) ?_
    intro wf hwf
    repeat (first
      | (refine x_skip rfl ?_; simp only [Act.put, ev_tmp, List.setIfInBounds_toArray, List.set_cons_succ, List.set_cons_zero, List.getD_cons_succ, List.getD_cons_zero])
      | (refine x_mv rfl rfl rfl ?_; simp only [Act.put, ev_tmp, List.setIfInBounds_toArray, List.set_cons_succ, List.set_cons_zero, List.getD_cons_succ, List.getD_cons_zero])
      | (refine x_as rfl rfl rfl ?_; simp only [Act.put, ev_tmp, List.setIfInBounds_toArray, List.set_cons_succ, List.set_cons_zero, List.getD_cons_succ, List.getD_cons_zero])
      | (refine x_run rfl fun K hK w1 hw1 => ?_; have k0 := hw1.cell (d0); have k1 := hw1.cell (d1); go_simp; refine hK _ ?_; clear hK K k0 k1 hw1 w1))
    refine x_nil ?_
    have b2 := (h1.ext (Ext.drew w)).ext hwf
    clear k0 k1 k2 m0 m1 m2 d0 d1
    have k0 := b2.cell 0 rfl; have k1 := b2.cell 1 rfl; have k2 := b2.cell 2 rfl
    have m0 := b2.froz 0; have m1 := b2.froz 1; have m2 := b2.froz 2
    have hlt : decide ((at' : Int) < (n : Int)) = false := by simp; omega
    go_wp2
    generalize hX : IntKind.u64.wrap (IntKind.u64.wrap (IntKind.u64.wrap (sd * 6364136223846793005)) + 1442695040888963407) = X at *
    have hXb : 0 ≤ X ∧ X < 18446744073709551616 := by rw [← hX]; exact wrap_u64_bd _
    clear hX
    have b5 : HB ((wf.setCell ⟨sb, 1, none⟩ (.int .i64 ((at' : Int) + 1))).setCell ⟨sb, 2, none⟩ (.int .u64 X)) sb #[.slice p n c, .int .i64 ((at' : Int) + 1), .int .u64 X] 182 := (b2.set 1 _).set 2 _
    have ch : Chg (fun k => k = sb) w ((wf.setCell ⟨sb, 1, none⟩ (.int .i64 ((at' : Int) + 1))).setCell ⟨sb, 2, none⟩ (.int .u64 X)) := Chg.mono (((Chg.of_ext (S := fun k => sb = k) ((Ext.drew w).trans hwf)).setCell (p := ⟨sb, 1, none⟩) rfl _).setCell (p := ⟨sb, 2, none⟩) rfl _) (fun k h => h.symm)
    have hs : Cs ((wf.setCell ⟨sb, 1, none⟩ (.int .i64 ((at' : Int) + 1))).setCell ⟨sb, 2, none⟩ (.int .u64 X)) p (bs.map fun (b : Nat) => Value.int .u8 (b : Int)) := cs_chg_lt h0.out ch HLT.out HL2.out
    clear k0 k1 k2 m0 m1 m2
    generalize ((wf.setCell ⟨sb, 1, none⟩ (.int .i64 ((at' : Int) + 1))).setCell ⟨sb, 2, none⟩ (.int .u64 X)) = W2 at *
    have b6 := b5.ext (Ext.drew W2)
    have d0 := b6.cell 0 rfl; have d1 := b6.cell 1 rfl
    refine wp_region_xall (F := fun _ _ _ => False) (by kernel_rfl) (by kernel_rfl) (by kernel_rfl) ?_
    intro wf3 hwf3
    repeat (first
      | (refine x_skip rfl ?_; simp only [Act.put, ev_tmp, List.setIfInBounds_toArray, List.set_cons_succ, List.set_cons_zero, List.getD_cons_succ, List.getD_cons_zero])
      | (refine x_mv rfl rfl rfl ?_; simp only [Act.put, ev_tmp, List.setIfInBounds_toArray, List.set_cons_succ, List.set_cons_zero, List.getD_cons_succ, List.getD_cons_zero])
      | (refine x_as rfl rfl rfl ?_; simp only [Act.put, ev_tmp, List.setIfInBounds_toArray, List.set_cons_succ, List.set_cons_zero, List.getD_cons_succ, List.getD_cons_zero])
      | (refine x_run rfl fun K hK w1 hw1 => ?_; have k0 := hw1.cell (d0); have k1 := hw1.cell (d1); go_simp; refine hK _ ?_; clear hK K k0 k1 hw1 w1))
    refine x_nil ?_
    have E3 := (Ext.drew W2).trans hwf3
    have b7 := b5.ext E3
    clear d0 d1 b6
    have hle : decide ((at' : Int) + 1 ≤ (n : Int)) = false := by simp; omega
    have k2 := b7.cell 2 rfl
    obtain ⟨x, hx1, hx2⟩ : ∃ x : Nat, wrap64 (bits .and .u64 (X / 1099511627776) 255) = (x : Int) ∧ x < 256 := by
      have g := u64_and (X / 1099511627776) 255 (by omega) (by omega) (by omega) (by omega)
      rw [g]
      have g2 : (X / 1099511627776).toNat &&& (255 : Int).toNat ≤ 255 := Nat.and_le_right
      generalize (X / 1099511627776).toNat &&& (255 : Int).toNat = z at g2
      exact ⟨z, by unfold wrap64; omega, by omega⟩
    go_wp2
    go_ret
    exact ⟨x, by first | rfl | (rw [hx1]; rfl), hx2, ⟨p, n, c, at' + 1, X, bs, b7, hs.ext E3, h3, h4, h5, by omega, hXb.1, hXb.2, h9⟩, ch.trans (.of_ext E3)⟩
theorem emod_le (a m : Int) (h : 0 ≤ a) (hm : 0 < m) : a % m ≤ a := by
  rcases Int.lt_or_le a m with h1 | h1
  · rw [Int.emod_eq_of_lt h h1]; exact Int.le_refl _
  · have := Int.emod_lt_of_pos a hm; omega
set_option maxRecDepth 100000 in
set_option maxHeartbeats 4000000 in
theorem drPick_any (sb K : Nat) (m : Int) (w : World) (h : DrAt w sb K) (hK : K ≤ 900000000) (hm : m ≤ 1000000) : Calls Try.prog 79 #[.pointer (some ⟨sb, 0, none⟩), .int .i64 m] w fun e w' => ∃ x : Nat, e = .returned (.int .i64 (x : Int)) ∧ (1 ≤ m → (x : Int) < m) ∧ x < 65536 ∧ DrAt w' sb (K + 2) ∧ Chg (fun k => k = sb) w w' := by
  have A := hid (fun W K' (g : DrAt W sb K') (hk : K' ≤ 1000000000) => drNext_any sb K' W g hk)
  have H := hid h
  clear h
  by_cases h1 : m ≤ 1
  · have d1 : decide (m ≤ 1) = true := decide_eq_true h1
    go_enter Try.func79, Try.ntmps79
    go_wp2
    go_ret
    exact ⟨0, rfl, fun h => by omega, by omega, H.out.mono (by omega), Chg.refl _ _⟩
  · have d1 : decide (m ≤ 1) = false := decide_eq_false h1
    by_cases h2 : 200 < m
    · have d2 : decide (200 < m) = true := decide_eq_true h2
      have d3 : (m = 0) = False := by simp; omega
      have d4 : (m = -1) = False := by simp; omega
      go_enter Try.func79, Try.ntmps79
      go_wp2_with fail
      refine (A.out _ K H.out (by omega)).mono ?_
      rintro e w1 ⟨x, rfl, hx, s1, c1⟩
      have S1 := hid s1
      clear s1
      go_wp2_with fail
      refine (A.out _ (K + 1) S1.out (by omega)).mono ?_
      rintro e w2 ⟨y, rfl, hy, s2, c2⟩
      have S2 := hid s2
      clear s2
      go_wp2
      go_ret
      have g1 := Int.emod_nonneg ((x : Int) * 256 + y) (show m ≠ 0 by omega)
      have g2 := Int.emod_lt_of_pos ((x : Int) * 256 + y) (show 0 < m by omega)
      have g3 := emod_le ((x : Int) * 256 + y) m (by omega) (by omega)
      exact ⟨(((x : Int) * 256 + y) % m).toNat, by rw [Int.toNat_of_nonneg g1]; rfl, fun _ => by omega, by omega, S2.out, c1.trans c2⟩
    · have d2 : decide (200 < m) = false := decide_eq_false h2
      go_enter Try.func79, Try.ntmps79
      go_wp2_with fail
      refine (A.out _ K H.out (by omega)).mono ?_
      rintro e w1 ⟨x, rfl, hx, s1, c1⟩
      have S1 := hid s1
      clear s1
      go_wp2
      go_ret
      have g1 := Int.emod_nonneg (x : Int) (show m ≠ 0 by omega)
      have g2 := Int.emod_lt_of_pos (x : Int) (show 0 < m by omega)
      have g3 := emod_le (x : Int) m (by omega) (by omega)
      exact ⟨((x : Int) % m).toNat, by rw [Int.toNat_of_nonneg g1]; rfl, fun _ => by omega, by omega, S1.out.mono (by omega), c1⟩
end Go.Proofs.Ytlimabbeaimdgaa
