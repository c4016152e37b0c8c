/- A part of the proofs: TnWj, TnWk, TnWl, FldW. -/
import Derived.Test.YtlimabbeaimdgaaGreatTnWhWork
import Derived.Test.YtlimabbeaimdgaaGreatTnWiWork
import Derived.Test.YtlimabbeaimdgaaGreatZ08Worker
import Derived.Test.YtlimabbeaimdgaaGreatZ07Worker
import Derived.Test.YtlimabbeaimdgaaGreatZ22Worker
import Derived.Test.YtlimabbeaimdgaaGreatTnGaWork
import Derived.Test.YtlimabbeaimdgaaGreatZ21Worker
import Derived.Test.YtlimabbeaimdgaaGreatZ04Worker
set_option linter.unusedSimpArgs false
set_option linter.unusedVariables false
set_option maxRecDepth 100000
set_option maxHeartbeats 16000000
namespace Go.Proofs.YtlimabbeaimdgaaGreat
open Go.RowKit
def wkB (r wk : Int) : Bool := inB r 1 16 && inB wk 1 (min r 8)
def wgB (L : List shLayer.T) (r k : Int) (nx : Nat) (r2 k2 : Int) (ny : Nat) (wk : Int) : Bool := gradB L r k nx r2 k2 ny && wkB r wk
def WgRet (w : World) (L : List shLayer.T) (r k : Int) (xs : List Nat) (r2 k2 : Int) (ys : List Nat) (wk : Int) (e : Ending) (w' : World) : Prop :=
 (wgB L r k xs.length r2 k2 ys.length wk = false ∧ e = .returned (.tuple #[.slice none 0 0, .slice none 0 0, .bool false])) ∨
 (wgB L r k xs.length r2 k2 ys.length wk = true ∧ ∃ v css bss q c vs, e = .returned (.tuple #[v, .slice q wk.toNat c, .bool true]) ∧ WgOwn w' w.heap.size (wgLists L k.toNat xs k2.toNat ys r.toNat wk.toNat wk.toNat) (wgLosses L k.toNat xs k2.toNat ys r.toNat wk.toNat wk.toNat) v q wk.toNat c css bss vs)
theorem wgB_nat {L : List shLayer.T} {r k r2 k2 wk : Int} {nx ny : Nat} (h : wgB L r k nx r2 k2 ny wk = true) : gradB L r k nx r2 k2 ny = true ∧ wkB r wk = true ∧ r2 = r ∧ ∃ R K K2 nk : Nat, r = (R : Int) ∧ k = (K : Int) ∧ k2 = (K2 : Int) ∧ wk = (nk : Int) ∧ nx = R * K ∧ ny = R * K2 ∧ R ≤ 16 ∧ 1 ≤ K ∧ K ≤ 16 ∧ 1 ≤ K2 ∧ K2 ≤ 16 ∧ 1 ≤ nk ∧ nk ≤ 8 ∧ nk ≤ R := by
 unfold wgB at h; rw [Bool.and_eq_true] at h; obtain ⟨hg, hw⟩ := h; obtain ⟨h1, h2, h3, _⟩ := gradB_ten hg; have hw' := hw; unfold wkB at hw'; unfold tenB at h1 h2; simp only [Bool.and_eq_true, decide_eq_true_eq, inB_true] at h1 h2 hw'; obtain ⟨⟨a1, a2⟩, a3⟩ := h1; obtain ⟨⟨b1, b2⟩, b3⟩ := h2; subst h3; obtain ⟨R, rfl⟩ : ∃ R : Nat, r = (R : Int) := ⟨r.toNat, by omega⟩; obtain ⟨K, rfl⟩ : ∃ K : Nat, k = (K : Int) := ⟨k.toNat, by omega⟩; obtain ⟨K2, rfl⟩ : ∃ K2 : Nat, k2 = (K2 : Int) := ⟨k2.toNat, by omega⟩; obtain ⟨nk, rfl⟩ : ∃ nk : Nat, wk = (nk : Int) := ⟨wk.toNat, by omega⟩; exact ⟨hg, hw, rfl, R, K, K2, nk, rfl, rfl, rfl, rfl, by exact_mod_cast a3, by exact_mod_cast b3, by omega, by omega, by omega, by omega, by omega, by omega, by omega, by omega⟩
theorem wgList_len {L : List shLayer.T} {R K K2 nk i : Nat} {xs ys : List Nat} (hg : gradB L R K xs.length R K2 ys.length = true) (hxl : xs.length = R * K) (hyl : ys.length = R * K2) (hk1 : 1 ≤ nk) (hkR : nk ≤ R) (hi : i < nk) : (wgList L K xs K2 ys R nk i).length = (parF L).length :=
 flatW_par (gradB_pt hg hxl hyl (wrN_pos hk1 hkR) (wrF_part hi)) (shareF ys.length)
theorem WorkerGradients_any (p q q2 : Option Addr) (n c nx cx ny cy : Nat) (r k r2 k2 wk : Int) (css : List (List Value)) (L : List shLayer.T) (xs ys : List Nat) (us vs : List Value) (w : World) (hL : Lays w p n css L) (hxl : xs.length = nx) (hyl : ys.length = ny) (hnx : nx ≤ maxLen) (hny : ny ≤ maxLen) (hcx : nx ≤ cx) (hcy : ny ≤ cy) (hqx : Cs w q us) (hfx : F32s us xs) (hqy : Cs w q2 vs) (hfy : F32s vs ys) :
 Calls Tryz.prog 11 #[.agg #[.slice p n c], .agg #[.int .i64 r, .int .i64 k, .slice q nx cx], .agg #[.int .i64 r2, .int .i64 k2, .slice q2 ny cy], .int .i64 wk] w fun e w' => WgRet w L r k xs r2 k2 ys wk e w' ∧ Ext w w' := by
 cases hwg : wgB L r k nx r2 k2 ny wk with
 | true =>
   obtain ⟨hg, hw, rfl, R, K, K2, nk, rfl, rfl, rfl, rfl, h1, h2, h3, h4, h5, h6, h7, h8, h9, h10⟩ := wgB_nat hwg; refine (WorkerGradients_yes p q q2 n c cx cy R K K2 nk nx ny css L xs ys us vs w hL (by rw [hxl, hyl]; exact hg) (hxl.trans h1) (hyl.trans h2) hxl hyl hcx hcy hqx hfx hqy hfy h3 h5 h7 h8 h9 h10).mono ?_; rintro e w' ⟨⟨v, css', bss, q', c', vs', rfl, h⟩, e1⟩
   refine ⟨Or.inr ⟨by rw [hxl, hyl]; exact hwg, v, css', bss, q', c', vs', ?_, ?_⟩, e1⟩
   · simp only [Int.toNat_natCast]
   · simp only [Int.toNat_natCast]; exact h
 | false =>
   have HWG := hid (show wgB L r k xs.length r2 k2 ys.length wk = false by rw [hxl, hyl]; exact hwg); obtain ⟨W0, hW0⟩ : ∃ W0, W0 = ((w.alloc (.cells #[.slice p n c] 35)).alloc (.cells #[.int .i64 r, .int .i64 k, .slice q nx cx] 37)).alloc (.cells #[.int .i64 r2, .int .i64 k2, .slice q2 ny cy] 37) := ⟨_, rfl⟩; obtain ⟨E0, s0, b0, b1, b2⟩ := box3 hW0; have b1 : HB W0 (w.heap.size + 1) #[.int .i64 r, .int .i64 k, .slice q nx cx] 37 := b1; have A := hid (modelTape_any p q q2 n c nx cx ny cy r k r2 k2 css L xs ys us vs W0 (hL.ext E0) hxl hyl hnx hny hcx hcy (hqx.ext E0) hfx (hqy.ext E0) hfy); have B := hid (fun W => WorkerRows_any r wk W); have HXL := hid hxl; have HYL := hid hyl; have Hwg := hid hwg; clear hL hxl hyl hwg; go_enter Tryz.func11, Tryz.ntmps11; go_wp2_with fail; rw [← hW0]; clear hW0; refine A.out.mono ?_; rintro e w1 ⟨⟨hg, rfl⟩ | ⟨hg, q5, q6, c5, c6, cs5, rfl, _, _⟩, e1⟩
   · clear hg
     go_wp2; refine bodyPost_ret (results_tmp3 (t := 8) (u := 9) (v := 10) (by kernel_rfl) _ _ _) rfl ?_; exact ⟨Or.inl ⟨HWG.out, rfl⟩, E0.trans e1⟩
   · have hno : ¬ (inB r 1 16 = true ∧ inB wk 1 (min r 8) = true) := by
      intro h; have h0 := HWG.out; unfold wgB wkB at h0; rw [hg, h.1, h.2] at h0
      cases h0
     have B2 := B.out; simp only [wrR_no hno] at B2; have B3 := hid B2; have x10 := (b1.ext e1).cell 0 rfl; clear hg hno B2 B; generalize (tapeOf L r k xs r2 k2 ys).length = n5 at *; generalize (wtsOf L r k xs r2 k2 ys).length = n6 at *; go_wp2_with fail; refine (B3.out _).mono ?_; rintro e w2 ⟨cs2, bs2, rfl, o2, _, _, e2⟩
     obtain ⟨p3, c3, rfl, _⟩ := rep_val o2.rep; simp only [ofCs, Sh.agg, if_false, Bool.false_eq_true, List.headD_cons]; clear o2; go_wp2; refine bodyPost_ret (results_tmp3 (t := 8) (u := 9) (v := 10) (by kernel_rfl) _ _ _) rfl ?_; exact ⟨Or.inl ⟨HWG.out, rfl⟩, E0.trans (e1.trans e2)⟩
def WgAny (w : World) (L : List shLayer.T) (r k : Int) (xs : List Nat) (r2 k2 : Int) (ys : List Nat) (wk : Int) (e : Ending) (w' : World) : Prop :=
 (wgB L r k xs.length r2 k2 ys.length wk = false ∧ ∃ u v, e = .returned (.tuple #[u, v, .bool false])) ∨
 (wgB L r k xs.length r2 k2 ys.length wk = true ∧ ∃ v css bss q c vs, e = .returned (.tuple #[v, .slice q wk.toNat c, .bool true]) ∧ WgOwn w' w.heap.size (wgLists L k.toNat xs k2.toNat ys r.toNat wk.toNat wk.toNat) (wgLosses L k.toNat xs k2.toNat ys r.toNat wk.toNat wk.toNat) v q wk.toNat c css bss vs)
theorem l10Gradients_any {sm sx sy : Option Nat} (bm om bx ox bz oz : Nat) (p q q2 : Option Addr) (n c nx cx ny cy : Nat) (r k r2 k2 wk : Int) (css : List (List Value)) (L : List shLayer.T) (xs ys : List Nat) (us vs : List Value) (w : World) (m0 : w.cell? ⟨bm, om, sm⟩ = some (.slice p n c)) (x0 : w.cell? ⟨bx, ox, sx⟩ = some (.int .i64 r)) (x1 : w.cell? ⟨bx, ox + 1, none⟩ = some (.int .i64 k)) (x2 : w.cell? ⟨bx, ox + 2, none⟩ = some (.slice q nx cx)) (y0 : w.cell? ⟨bz, oz, sy⟩ = some (.int .i64 r2)) (y1 : w.cell? ⟨bz, oz + 1, none⟩ = some (.int .i64 k2)) (y2 : w.cell? ⟨bz, oz + 2, none⟩ = some (.slice q2 ny cy)) (hL : Lays w p n css L) (hxl : xs.length = nx) (hyl : ys.length = ny) (hnx : nx ≤ maxLen) (hny : ny ≤ maxLen) (hcx : nx ≤ cx) (hcy : ny ≤ cy) (hqx : Cs w q us) (hfx : F32s us xs) (hqy : Cs w q2 vs) (hfy : F32s vs ys) :
 Calls Tryz.prog 32 #[.pointer (some ⟨bm, om, sm⟩), .pointer (some ⟨bx, ox, sx⟩), .pointer (some ⟨bz, oz, sy⟩), .int .i64 wk] w fun e w' => WgAny w L r k xs r2 k2 ys wk e w' ∧ Ext w w' := by
 cases hno : (tenB r k nx && (tenB r2 k2 ny && (decide (r = r2) && (inB r 1 16 && inB wk 1 (min r 8))))) with
 | false =>
   refine (l10Gradients_no bm om bx ox bz oz p q q2 n c nx cx ny cy r k r2 k2 wk w x0 x1 x2 y0 y1 y2 hnx hny hno).mono ?_; rintro e w' ⟨h, e1⟩
   refine ⟨Or.inl ⟨?_, h⟩, e1⟩
   cases hw : wgB L r k xs.length r2 k2 ys.length wk with
   | false => rfl
   | true =>
     exfalso
     unfold wgB at hw; rw [Bool.and_eq_true] at hw; obtain ⟨h1, h2, h3, _⟩ := gradB_ten hw.1; rw [hxl] at h1; rw [hyl] at h2; have h4 : (inB r 1 16 && inB wk 1 (min r 8)) = true := hw.2; rw [h1, h2, h4, decide_eq_true h3] at hno
     cases hno
 | true =>
   simp only [Bool.and_eq_true, decide_eq_true_eq] at hno; obtain ⟨h1, h2, rfl, h4, h5⟩ := hno; have g1 := h1; have g2 := h2; unfold tenB at g1 g2; simp only [Bool.and_eq_true, decide_eq_true_eq, inB_true] at g1 g2; have h4' := inB_true.1 h4; have h5' := inB_true.1 h5; obtain ⟨⟨a1, a2⟩, a3⟩ := g1; obtain ⟨⟨b1, b2⟩, b3⟩ := g2; obtain ⟨R, rfl⟩ : ∃ R : Nat, r = (R : Int) := ⟨r.toNat, by omega⟩; obtain ⟨K, rfl⟩ : ∃ K : Nat, k = (K : Int) := ⟨k.toNat, by omega⟩; obtain ⟨K2, rfl⟩ : ∃ K2 : Nat, k2 = (K2 : Int) := ⟨k2.toNat, by omega⟩; obtain ⟨nk, rfl⟩ : ∃ nk : Nat, wk = (nk : Int) := ⟨wk.toNat, by omega⟩; have e3 : nx = R * K := by exact_mod_cast a3
   have e4 : ny = R * K2 := by exact_mod_cast b3
   have hwk : wkB (R : Int) (nk : Int) = true := by unfold wkB; rw [h4, h5]; rfl
   refine (l10Gradients_yes bm om bx ox bz oz p q q2 n c nx cx ny cy R K K2 nk css L xs ys us vs w m0 x0 x1 x2 y0 y1 y2 hL h1 h2 hxl hyl e3 e4 hcx hcy hqx hfx hqy hfy (by omega) (by omega) (by omega) (by omega) (by omega) (by omega)).mono ?_; rintro e w' ⟨⟨hg, h⟩ | ⟨hg, v, css', bss, q', c', vs', rfl, h⟩, e1⟩
   · exact ⟨Or.inl ⟨by unfold wgB; rw [hxl, hyl, hg]; rfl, h⟩, e1⟩
   · refine ⟨Or.inr ⟨by unfold wgB; rw [hxl, hyl, hg, hwk]; rfl, v, css', bss, q', c', vs', ?_, ?_⟩, e1⟩
     · simp only [Int.toNat_natCast]
     · simp only [Int.toNat_natCast]; exact h
theorem specWorkerGradients_any (p q q2 : Option Addr) (n c nx cx ny cy : Nat) (r k r2 k2 wk : Int) (css : List (List Value)) (L : List shLayer.T) (xs ys : List Nat) (us vs : List Value) (w : World) (hL : Lays w p n css L) (hxl : xs.length = nx) (hyl : ys.length = ny) (hnx : nx ≤ maxLen) (hny : ny ≤ maxLen) (hcx : nx ≤ cx) (hcy : ny ≤ cy) (hqx : Cs w q us) (hfx : F32s us xs) (hqy : Cs w q2 vs) (hfy : F32s vs ys) :
 Calls Tryz.prog 8 #[.agg #[.slice p n c], .agg #[.int .i64 r, .int .i64 k, .slice q nx cx], .agg #[.int .i64 r2, .int .i64 k2, .slice q2 ny cy], .int .i64 wk] w fun e w' => WgRet w L r k xs r2 k2 ys wk e w' ∧ Ext w w' := by
 obtain ⟨W0, hW0⟩ : ∃ W0, W0 = ((w.alloc (.cells #[.slice p n c] 35)).alloc (.cells #[.int .i64 r, .int .i64 k, .slice q nx cx] 37)).alloc (.cells #[.int .i64 r2, .int .i64 k2, .slice q2 ny cy] 37) := ⟨_, rfl⟩; obtain ⟨E0, s0, b0, b1, b2⟩ := box3 hW0; have b0 : HB W0 w.heap.size #[.slice p n c] 35 := b0; have b1 : HB W0 (w.heap.size + 1) #[.int .i64 r, .int .i64 k, .slice q nx cx] 37 := b1; have b2 : HB W0 (w.heap.size + 1 + 1) #[.int .i64 r2, .int .i64 k2, .slice q2 ny cy] 37 := b2; have K := hid (l10Gradients_any (sm := none) (sx := none) (sy := none) w.heap.size 0 (w.heap.size + 1) 0 (w.heap.size + 1 + 1) 0 p q q2 n c nx cx ny cy r k r2 k2 wk css L xs ys us vs W0 (b0.cell 0 rfl) (b1.cell 0 rfl) (b1.cell 1 rfl) (b1.cell 2 rfl) (b2.cell 0 rfl) (b2.cell 1 rfl) (b2.cell 2 rfl) (hL.ext E0) hxl hyl hnx hny hcx hcy (hqx.ext E0) hfx (hqy.ext E0) hfy); clear b0 b1 b2 hL hxl hyl; go_enter Tryz.func8, Tryz.ntmps8; go_wp2_with fail; rw [← hW0]; clear hW0; refine K.out.mono ?_; rintro e w1 ⟨⟨hg, u, v, rfl⟩ | ⟨hg, v, css', bss, q', c', vs', rfl, h⟩, e1⟩
 · have HG := hid hg
   clear hg; go_wp2; refine bodyPost_ret (results_tmp3 (t := 8) (u := 9) (v := 10) (by kernel_rfl) _ _ _) rfl ?_; exact ⟨Or.inl ⟨HG.out, rfl⟩, E0.trans e1⟩
 · have HG := hid hg; have HH := hid h
   clear hg h; go_wp2; refine bodyPost_ret (results_tmp3 (t := 8) (u := 9) (v := 10) (by kernel_rfl) _ _ _) rfl ?_; exact ⟨Or.inr ⟨HG.out, v, css', bss, q', c', vs', rfl, HH.out.base E0.size⟩, E0.trans e1⟩
end Go.Proofs.YtlimabbeaimdgaaGreat
namespace Go.Proofs.YtlimabbeaimdgaaGreat.lWorkerGradients
open Go.RowKit
def okB (d : shModel.T) (x y : shTensor.T) (k : Int) : Bool := wgB d.1 x.1 x.2.1 x.2.2.1.length y.1 y.2.1 y.2.2.1.length k
def res (d : shModel.T) (x y : shTensor.T) (k : Int) : List (List Nat) × List Nat × Bool := if okB d x y k = true then (wgLists d.1 x.2.1.toNat x.2.2.1 y.2.1.toNat y.2.2.1 x.1.toNat k.toNat k.toNat, wgLosses d.1 x.2.1.toNat x.2.2.1 y.2.1.toNat y.2.2.1 x.1.toNat k.toNat k.toNat, true) else ([], [], false)
theorem tot_ssl {s : List (List Nat)} {N : Nat} (h : ∀ x ∈ s, x.length ≤ N) : tot (.sl (.sl .flt)) s ≤ s.length * (N + 1) := by
 rw [tot_sl]
 induction s with
 | nil => simp
 | cons x s ih =>
   have h1 := ih fun y hy => h y (by simp [hy])
   have h2 : tot (.sl .flt) x ≤ N := by rw [tot_flts]; exact h x (by simp)
   simp only [List.length_cons, List.map_cons, List.sum_cons]; rw [Nat.add_mul, Nat.one_mul]; omega
theorem okB_nat {d : shModel.T} {x y : shTensor.T} {k : Int} (h : okB d x y k = true) : ∃ K K2 R nk : Nat, gradB d.1 R K x.2.2.1.length R K2 y.2.2.1.length = true ∧ x.2.2.1.length = R * K ∧ y.2.2.1.length = R * K2 ∧ 1 ≤ nk ∧ nk ≤ 8 ∧ nk ≤ R ∧ x.2.1.toNat = K ∧ y.2.1.toNat = K2 ∧ x.1.toNat = R ∧ k.toNat = nk := by
 obtain ⟨hg, hw, h2, R, K, K2, nk, e1, e2, e3, e4, h3, h4, _, _, _, _, _, h5, h6, h7⟩ := wgB_nat h; rw [h2, e1, e2, e3] at hg; exact ⟨K, K2, R, nk, hg, h3, h4, h5, h6, h7, by omega, by omega, by omega, by omega⟩
theorem res_bd (d : shModel.T) (x y : shTensor.T) (k : Int) (hd : tot shModel d ≤ 1048576) (_ : tot shTensor x ≤ 1048576) (_ : tot shTensor y ≤ 1048576) (_ : Fit shModel d) (_ : Fit shTensor x) (_ : Fit shTensor y) (_ : Fit .int k) : tot shFloat32SS (res d x y k).1 ≤ 1048576 := by
 unfold res
 split
 · rename_i h
   obtain ⟨K, K2, R, nk, hg, h3, h4, h5, h6, h7, e1, e2, e3, e4⟩ := okB_nat h; rw [e1, e2, e3, e4]
   have hm : ModOk d.1 := by
    have := (gradB_ten hg).2.2.2.1; unfold headB at this; rw [Bool.and_eq_true] at this; exact modOk this.1
   have hp : (parF d.1).length ≤ 1536 := small_off (small_of hm)
   have h1 := tot_ssl (s := wgLists d.1 K x.2.2.1 K2 y.2.2.1 R nk nk) (N := 1536) fun z hz => by
    unfold wgLists at hz; obtain ⟨i, hi, rfl⟩ := List.mem_map.1 hz; have hi : i < nk := by simpa using hi
    rw [wgList_len hg h3 h4 h5 h7 hi]; exact hp
   rw [wgLists_len] at h1; have : nk * (1536 + 1) ≤ 8 * 1537 := Nat.mul_le_mul_right _ h6; exact Nat.le_trans h1 (by omega)
 · exact Nat.zero_le _
theorem res_bd1 (d : shModel.T) (x y : shTensor.T) (k : Int) (hd : tot shModel d ≤ 1048576) (_ : tot shTensor x ≤ 1048576) (_ : tot shTensor y ≤ 1048576) (_ : Fit shModel d) (_ : Fit shTensor x) (_ : Fit shTensor y) (_ : Fit .int k) : tot (.sl .flt) (res d x y k).2.1 ≤ 1048576 := by
 rw [tot_flts]; unfold res
 split
 · rename_i h
   obtain ⟨K, K2, R, nk, hg, h3, h4, h5, h6, h7, e1, e2, e3, e4⟩ := okB_nat h; dsimp only; rw [wgLosses_len, e4]; omega
 · exact Nat.zero_le _
theorem both_ok (f : Nat) (K : ∀ (p q q2 : Option Addr) (n c nx cx ny cy : Nat) (r k r2 k2 wk : Int) (css : List (List Value)) (L : List shLayer.T) (xs ys : List Nat) (us vs : List Value) (w : World), Lays w p n css L → xs.length = nx → ys.length = ny → nx ≤ maxLen → ny ≤ maxLen → nx ≤ cx → ny ≤ cy → Cs w q us → F32s us xs → Cs w q2 vs → F32s vs ys →
 Calls Tryz.prog f #[.agg #[.slice p n c], .agg #[.int .i64 r, .int .i64 k, .slice q nx cx], .agg #[.int .i64 r2, .int .i64 k2, .slice q2 ny cy], .int .i64 wk] w fun e w' => WgRet w L r k xs r2 k2 ys wk e w' ∧ Ext w w')
 (cs0 : List Value) (D0 : shModel.T) (cs1 : List Value) (D1 : shTensor.T) (cs2 : List Value) (D2 : shTensor.T) (a3 : Int) (w : World) (h0 : Rep w shModel cs0 D0) (h1 : Rep w shTensor cs1 D1) (h2 : Rep w shTensor cs2 D2) (f0 : Fit shModel D0) : Calls Tryz.prog f #[ofCs shModel cs0, ofCs shTensor cs1, ofCs shTensor cs2, .int .i64 a3] w (Out2 w (.sl (.sl .flt)) (.sl .flt) (res D0 D1 D2 a3)) := by
 obtain ⟨L0, u0⟩ := D0; obtain ⟨c0, c1, rfl, k0, rfl⟩ := h0; obtain ⟨p, c, rfl, _⟩ := rep_val k0; obtain ⟨p', c', css, he0, L⟩ := lays_of k0 f0.1
 cases he0
 obtain ⟨q, cq, us, rfl, hp, hf, hcq, hcm⟩ := ten_vals h1; obtain ⟨q', cq', us', rfl, hp', hf', hcq', hcm'⟩ := ten_vals h2; obtain ⟨r1, k1, xs, v1⟩ := D1; obtain ⟨r2, k2, ys, v2⟩ := D2; dsimp only at hp hf hcq hcm hp' hf' hcq' hcm' ⊢; simp only [ofCs, Sh.agg, if_true, List.append_nil, List.cons_append, List.nil_append]; have hxm : xs.length ≤ maxLen := Nat.le_trans hcq hcm; have hym : ys.length ≤ maxLen := Nat.le_trans hcq' hcm'; refine (K p q q' L0.length c xs.length cq ys.length cq' r1 k1 r2 k2 a3 css L0 xs ys us us' w L rfl rfl hxm hym hcq hcq' hp hf hp' hf').mono ?_; rintro e w' ⟨⟨hb, rfl⟩ | ⟨hb, v, css', bss, q9, c9, vs9, rfl, hW⟩, h3⟩
 · have hb : okB (L0, u0) (r1, k1, xs, v1) (r2, k2, ys, v2) a3 = false := hb
   unfold res; rw [hb, if_neg (by decide)]; exact ⟨[.slice none 0 0], [], [.slice none 0 0], [], rfl, own_nil, own_nil, by simp, by simp, h3⟩
 · have hb : okB (L0, u0) (r1, k1, xs, v1) (r2, k2, ys, v2) a3 = true := hb
   unfold res; rw [hb, if_pos rfl]; obtain ⟨hls, hfs, hfl, hne⟩ := hW; have hrow := hls.row; rw [wgLists_len] at hrow; obtain ⟨qv, cv, rfl⟩ := own_slice hrow; have hn : (wgLosses L0 k1.toNat xs k2.toNat ys r1.toNat a3.toNat a3.toNat).length = a3.toNat := wgLosses_len _ _ _ _ _ _ _ _; have hm : (wgLists L0 k1.toNat xs k2.toNat ys r1.toNat a3.toNat a3.toNat).length = a3.toNat := wgLists_len _ _ _ _ _ _ _ _; have T := hls.tb hm; have o1 : Own w' (.sl (.sl .flt)) [.slice qv a3.toNat cv] (wgLists L0 k1.toNat xs k2.toNat ys r1.toNat a3.toNat a3.toNat) (blocksOf qv ++ bss.flatten) := own_sl.2 ⟨qv, cv, css', bss, by rw [hm], by rw [hm]; exact T.row, by rw [hm]; exact (own_cap hrow).1, (own_cap hrow).2, T.els, rfl⟩; have o2 : Own w' (.sl .flt) [.slice q9 a3.toNat c9] (wgLosses L0 k1.toNat xs k2.toNat ys r1.toNat a3.toNat a3.toNat) (blocksOf q9) := own_flts.2 ⟨q9, c9, vs9, by rw [hn], by rw [hn]; exact ownRow_of hfs, hfl, by rw [hn]; exact (own_cap hfs).1, (own_cap hfs).2, rfl⟩; refine ⟨[.slice qv a3.toNat cv], _, [.slice q9 a3.toNat c9], _, rfl, o1, o2, ?_, ?_, h3⟩
   · refine List.nodup_append.2 ⟨T.nodup, by cases q9 <;> simp [blocksOf], fun a ha b hb hab => ?_⟩
     subst hab; have h9 := hne a (own_blk hb hfs); rcases List.mem_append.1 ha with h | h
     · exact h9.1 (own_blk h hrow)
     · exact h9.2 h
   · intro b hb
     rcases List.mem_append.1 hb with hb | hb
     · exact T.lo b hb
     · exact own_le hfs b (own_blk hb hfs)
theorem impl_ok (cs0 : List Value) (D0 : shModel.T) (cs1 : List Value) (D1 : shTensor.T) (cs2 : List Value) (D2 : shTensor.T) (a3 : Int) (w : World) (h0 : Rep w shModel cs0 D0) (h1 : Rep w shTensor cs1 D1) (h2 : Rep w shTensor cs2 D2) (f0 : Fit shModel D0) (_ : Fit shTensor D1) (_ : Fit shTensor D2) (_ : Fit .int a3) : Calls Tryz.prog 11 #[ofCs shModel cs0, ofCs shTensor cs1, ofCs shTensor cs2, .int .i64 a3] w (Out2 w (.sl (.sl .flt)) (.sl .flt) (res D0 D1 D2 a3)) :=
 both_ok 11 WorkerGradients_any cs0 D0 cs1 D1 cs2 D2 a3 w h0 h1 h2 f0
theorem spec_ok (cs0 : List Value) (D0 : shModel.T) (cs1 : List Value) (D1 : shTensor.T) (cs2 : List Value) (D2 : shTensor.T) (a3 : Int) (w : World) (h0 : Rep w shModel cs0 D0) (h1 : Rep w shTensor cs1 D1) (h2 : Rep w shTensor cs2 D2) (f0 : Fit shModel D0) (_ : Fit shTensor D1) (_ : Fit shTensor D2) (_ : Fit .int a3) : Calls Tryz.prog 8 #[ofCs shModel cs0, ofCs shTensor cs1, ofCs shTensor cs2, .int .i64 a3] w (Out2 w (.sl (.sl .flt)) (.sl .flt) (res D0 D1 D2 a3)) :=
 both_ok 8 specWorkerGradients_any cs0 D0 cs1 D1 cs2 D2 a3 w h0 h1 h2 f0
end Go.Proofs.YtlimabbeaimdgaaGreat.lWorkerGradients
namespace Go.Proofs.YtlimabbeaimdgaaGreat
open Go.RowKit
theorem fit_int {n : Int} (h : (Lit.int .i64 n).wf = true) : Fit .int n := by
 simp [Lit.wf, IntKind.min, IntKind.max, IntKind.bits, IntKind.signed] at h; unfold Fit; omega
end Go.Proofs.YtlimabbeaimdgaaGreat
