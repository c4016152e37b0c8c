/- The reference's values of a tape. -/
import Derived.Test.YtlimabbeaimdgaaGreatZ15Evalua
import Derived.Test.YtlimabbeaimdgaaGreatZ29Evalua
import Derived.Test.YtlimabbeaimdgaaGreatTnXe
import Derived.Test.YtlimabbeaimdgaaGreatTnXf
set_option linter.unusedSimpArgs false
set_option linter.unusedVariables false
namespace Go.Proofs.YtlimabbeaimdgaaGreat
open Go.RowKit
set_option maxRecDepth 100000 in
set_option maxHeartbeats 4000000 in
theorem l04Run_any {sh : Nat → Nat × Nat} (p : Option Addr) (n c : Nat) (css : List (List Value)) (ops : List shOp.T) (w : World) (O : Ops w p n css ops) (hT : TapeOk sh ops) (h1 : 1 ≤ n) :
 Calls Tryz.prog 79 #[.slice p n c] w fun e w' => ∃ u, e = .returned u ∧ IsTs w.heap.size (valsT ops n) w' u ∧ Ext w w' := by
 have hlen := O.len
 have hn : n ≤ 48 := by have := hT.len; omega
 have hps : p.isSome = true := O.cs.some_of (s := 7) (i := 0) O.size (by decide) (by have := O.cnt; omega)
 have HO := hid O
 have HT := hid hT
 have HV := hid (fun i => show valsT ops (i + 1) = valsT ops i ++ [valT (ops.getD i o0) (valsT ops i)] from rfl)
 have HVL := hid (fun i => valsT_len ops i)
 have HLn := hid hlen
 clear O hT hlen
 have G0 : GrowOwn (w.alloc (.cells #[] 37)) w.heap.size 37 shTensor (.slice (some ⟨w.heap.size, 0, none⟩) 0 0) [] [] [] := GrowOwn.empty (World.ownsRow_made w #[] 0 (Nat.le_refl _) (by decide) rfl)
 have E0 := Ext.alloc w (.cells #[] 37)
 go_enter Tryz.func79, Tryz.ntmps79
 go_wp2
 go_loopw [3, 4] (fun v iv wr => ∃ (i : Nat) (cs2 : List (List Value)) (bss : List (List Nat)), i ≤ n ∧ iv = .int .i64 (i : Int) ∧ GrowOwn wr w.heap.size 37 shTensor v (valsT ops i) cs2 bss ∧ Ext w wr) (fun _ iv _ => n - (intOf iv).toNat)
 case atStart => exact ⟨0, [], [], by omega, rfl, G0, E0⟩
 case round =>
  clear G0 E0
  obtain ⟨i, cs2, bss, hi, rfl, hG, he⟩ := hrel
  by_cases hlt : i < n
  · obtain ⟨oc, hoc, hro⟩ := HO.out.at' hlt
    have hTs : IsTs w.heap.size (valsT ops i) wr u3 := ⟨_, _, hG⟩
    obtain ⟨q, k, cs3, hu3, hten, hk1, hk2⟩ := hTs.tens
    rw [HVL.out i] at hu3 hten hk1
    subst hu3
    have hcs := (HO.out.ext he).cs
    have hcnt := HO.out.cnt
    have hsz := HO.out.size
    have hok := HT.out.ok i (by rw [HLn.out]; exact hlt)
    have hsi := fun j (hj : j ≤ i) => HT.out.side j (by rw [HLn.out]; omega)
    have key := fun a (ha : a < i) => hten.at' (sh := sh) (fun j hj => vals_shaped HT.out i (by rw [HLn.out]; omega) j hj) ha
    have HVi := hid (HV.out i)
    have HVLi := hid (HVL.out i)
    have Hoc := hid hoc
    have HG := hid hG
    have hle := he.size
    generalize ops.getD i o0 = d at *
    clear hoc hG hTs HV HVL
    have hqs : 0 < i → q.isSome = true := fun h => hten.cs.some_of (s := 3) (i := 0) hten.size (by decide) (by have := hten.cnt; omega)
    have Hke := hid key
    have Hsi := hid hsi
    have Hq := hid hqs
    have Hro := hid hro
    have KT := hid hten
    clear key hsi hro hten hqs
    cases hok with
    | inp r c xs hl hs2 =>
      as_aux_lemma =>
      obtain ⟨zb, ct, rfl, hz, ht⟩ := mkOp_vals Hro.out
      obtain ⟨qt, kt, ut, rfl, hpt, hft, ht3, ht4⟩ := ten_vals ht
      have hsi := Hsi.out i (Nat.le_refl _)
      rw [hs2] at hsi
      obtain ⟨i1, i2, i3, i4⟩ := hsi
      dsimp only at i1 i2 i3 i4
      have hv : valT (mkOp 0 0 0 0 (tn r c xs)) (valsT ops i) = tn r c xs := by unfold valT; rw [if_pos (by simp [mkOp])]; rfl
      rw [hv] at HVi
      dsimp only [tn] at hpt hft ht3 ht4 HVi Hoc
      obtain ⟨N, hN⟩ : ∃ N, N = r * c := ⟨_, rfl⟩
      have hN2 : N ≤ 256 := by rw [hN]; exact Nat.mul_le_mul i2 i4
      have hlN : xs.length = N := by rw [hN]; exact hl
      simp only [List.cons_append, List.nil_append, hlN] at Hoc
      obtain ⟨W0, hW0⟩ : ∃ W0, W0 = (wr.alloc (.cells #[.int .i64 0, .int .i64 0, .int .i64 0, .float .f32 zb, .int .i64 r, .int .i64 c, .slice qt N kt] 79)).alloc (.cells #[.int .i64 0, .int .i64 0, .slice none 0 0] 37) := ⟨_, rfl⟩
      obtain ⟨E0, s0, b5, b6⟩ := box2 hW0
      have b5 : HB W0 wr.heap.size #[.int .i64 0, .int .i64 0, .int .i64 0, .float .f32 zb, .int .i64 r, .int .i64 c, .slice qt N kt] 79 := b5
      have b6 : HB W0 (wr.heap.size + 1) #[.int .i64 0, .int .i64 0, .slice none 0 0] 37 := b6
      have K : Hid (∀ sp : Option Nat, Calls Tryz.prog 52 #[.pointer (some ⟨wr.heap.size, 4, sp⟩), .int .i64 0, .int .i64 r] W0 (RetTen W0 r c xs)) := hid (fun sp => by
       have h := l02Slice_any (sp := sp) wr.heap.size 4 c 0 r N kt qt ut xs W0 (b5.cell 5 rfl) (b5.cell 6 rfl) (by omega) (by omega) (by rw [hN]; simp) (by omega) hlN (hpt.ext (he.trans E0)) hft
       have e : (xs.take ((0 + r) * c)).drop (0 * c) = xs := by rw [Nat.zero_mul, List.drop_zero, Nat.zero_add, ← hN, ← hlN, List.take_length]
       rw [e] at h
       exact h)
      have HX := hid hlN
      clear ht hpt hft hz hl hN hs2 hv hlN
      go_wp2_with (first | ((with_reducible show wpList _ _ _ (Oper.mk _ (Op.indexAddr _ _ _) _ _ _ _ :: Oper.mk _ (Op.load _ _) _ _ _ _ :: _) _ _); refine wl_idxloadE (s := shOp) (j := i) rfl rfl rfl rfl (fun _ => rfl) rfl rfl rfl hcs hsz hcnt hlt hps Hoc.out ?_; simp only [ofCs, Sh.agg, if_true]) | fail)
      rw [← hW0]
      clear hW0
      refine (K.out _).mono ?_
      rintro e w1 ⟨tq, tk, ws, rfl, own, hf3, e1⟩
      rw [HX.out] at own ⊢
      have b6x := b6.ext e1
      have hs1 := e1.size
      go_wp2_with (first | ((with_reducible show wpList _ _ _ (Oper.mk _ (Op.store _ _ _) _ _ _ _ :: _) _ _); refine wl_st3 (y0 := .int .i64 r) (y1 := .int .i64 c) (y2 := .slice tq N tk) rfl rfl rfl rfl b6x rfl rfl rfl ?_; intro w2 d6 ch; have n0 := d6.cell 0 rfl; have n1 := d6.cell 1 rfl; have n2 := d6.cell 2 rfl; have e9 := (E0.trans e1).chg ch (fun k hk => by omega); have hs9 := e9.size; have G1 := hid (HG.out.ext e9); have hrow := G1.out.row; rw [HVLi.out] at hrow) | ((with_reducible show wpList _ _ _ (Oper.mk _ (Op.buildSlice _ _ _) _ _ _ _ :: Oper.mk _ (Op.call _) _ _ _ _ :: _) _ _); refine wl_app1b (u := .agg #[.int .i64 r, .int .i64 c, .slice tq N tk]) rfl rfl rfl rfl rfl rfl rfl (fun _ => rfl) (fun _ => rfl) hrow (by unfold maxLen; omega) (by omega) (by omega) ?_; intro g9 c9 w9 own9 g9' hg9) | fail)
      have own' := own_base (own_chgB own ch (fun k hk => by omega)) (show wr.heap.size ≤ W0.heap.size by omega)
      obtain ⟨ho1, ho2, ho3⟩ := own_mk (r := r) (c := c) HX.out own' hf3
      go_roundw
      case rel =>
       have hsn := HG.out.snoc e9 ho1 ho2 ho3 hle HVLi.out own9 g9' hg9
       exact ⟨i + 1, _, _, by omega, by go_num, by rw [HVi.out]; exact hsn, (he.trans e9).grown g9' (fun k hk => by have := own_le hrow k hk; omega)⟩
      case measure => simp [intOf]; omega
    | add a b ha hb h1 h2 =>
      as_aux_lemma =>
      obtain ⟨zb, ct, rfl, hz, ht⟩ := mkOp_vals Hro.out
      obtain ⟨qt, ct', ut, rfl, hpt, _⟩ := ten_vals ht
      obtain ⟨ca, hca, hva⟩ := Hke.out a ha
      have hsa := Hsi.out a (by omega)
      obtain ⟨cb, hcb, hvb⟩ := Hke.out b hb
      have hsb := Hsi.out b (by omega)
      rw [valT_mk (by decide)] at HVi
      generalize (valsT ops i).getD a t0 = va at hva HVi
      generalize (valsT ops i).getD b t0 = vb at hvb HVi
      generalize sh a = sa at *
      generalize sh b = sb at *
      obtain ⟨qa, ka, ua, xs, rfl, rfl, la, p1, p2, p3, p4⟩ := hva
      obtain ⟨qb, kb, ub, ys, rfl, rfl, lb, g1, g2, g3, g4⟩ := hvb
      obtain ⟨rb, ccb⟩ := sb
      obtain ⟨j1, j2, j3, j4⟩ := hsb
      obtain ⟨ra, cca⟩ := sa
      obtain ⟨i1, i2, i3, i4⟩ := hsa
      dsimp only at *
      obtain ⟨Na, hNa⟩ : ∃ N, N = ra * cca := ⟨_, rfl⟩
      have hNa2 : Na ≤ 256 := by rw [hNa]; exact Nat.mul_le_mul i2 i4
      rw [← hNa] at la p3 hca
      obtain ⟨Nb, hNb⟩ : ∃ N, N = rb * ccb := ⟨_, rfl⟩
      have hNb2 : Nb ≤ 256 := by rw [hNb]; exact Nat.mul_le_mul j2 j4
      rw [← hNb] at lb g3 hcb
      simp only [List.cons_append, List.nil_append, t0, List.length_nil] at Hoc
      obtain ⟨W0, hW0⟩ : ∃ W0, W0 = (((wr.alloc (.cells #[.int .i64 1, .int .i64 a, .int .i64 b, .float .f32 zb, .int .i64 0, .int .i64 0, .slice qt 0 ct'] 79)).alloc (.cells #[.int .i64 0, .int .i64 0, .slice none 0 0] 37)).alloc (.cells #[.int .i64 ra, .int .i64 cca, .slice qa Na ka] 37)).alloc (.cells #[.int .i64 rb, .int .i64 ccb, .slice qb Nb kb] 37) := ⟨_, rfl⟩
      obtain ⟨E0, s0, b5, b6, b7, b8⟩ := box4 hW0
      have hnm : Na ≤ Nb := by rw [hNa, hNb, show rb = ra from congrArg Prod.fst h1, show ccb = cca from congrArg Prod.snd h1]; exact Nat.le_refl _
      have K := hid (l02Add_any (sp := none) (sq := none) (wr.heap.size + 1 + 1) 0 ra cca qa Na ka ua xs (wr.heap.size + 1 + 1 + 1) 0 qb Nb kb ub ys W0 (b7.cell 0 rfl) (b7.cell 1 rfl) (b7.cell 2 rfl) la (by omega) (p1.ext E0) p2 (b8.cell 2 rfl) lb hnm (by omega) (g1.ext E0) g2)
      have HX : Hid ((addX Na xs ys).length = Na) := ntab_len _ _
      have HV : Hid ((opV 1 0 (tn ra cca xs) (tn rb ccb ys)) = ((ra : Int), (cca : Int), addX Na xs ys, ())) := hid (by simp only [opV]; simp only [tn, la]; (try rfl))
      rw [HV.out] at HVi
      generalize addX Na xs ys = res at *
      have HCA := hid hca
      have hqs := Hq.out (by omega)
      have HCB := hid hcb
      clear hcb hNb g1 g2 g3 g4 lb
      clear ht hpt hca hz hNa p1 p2 p3 p4 la HV h1
      go_wp2_with (first | ((with_reducible show wpList _ _ _ (Oper.mk _ (Op.indexAddr _ _ _) _ _ _ _ :: Oper.mk _ (Op.load _ _) _ _ _ _ :: _) _ _); refine wl_idxloadE (s := shOp) (j := i) rfl rfl rfl rfl (fun _ => rfl) rfl rfl rfl hcs hsz hcnt hlt hps Hoc.out ?_; simp only [ofCs, Sh.agg, if_true]) | ((with_reducible show wpList _ _ _ (Oper.mk _ (Op.indexAddr _ _ _) _ _ _ _ :: Oper.mk _ (Op.load _ _) _ _ _ _ :: _) _ _); refine wl_idxloadE (s := shTensor) (j := a) rfl rfl rfl rfl (fun _ => rfl) rfl rfl rfl ((KT.out.ext (by (repeat (first | with_reducible exact Ext.refl _ | with_reducible assumption | ((with_reducible refine Ext.setCell ?_ ?_ _); rotate_left; focus (first | (simp; done) | (simp; omega))) | (with_reducible refine Ext.trans ?_ (Ext.alloc _ _)) | (with_reducible refine Ext.trans ?_ (Ext.drew _)) | (with_reducible refine Ext.trans ?_ (by with_reducible assumption)))))).cs) KT.out.size KT.out.cnt ha hqs HCA.out ?_; simp only [ofCs, Sh.agg, if_true]) | ((with_reducible show wpList _ _ _ (Oper.mk _ (Op.indexAddr _ _ _) _ _ _ _ :: Oper.mk _ (Op.load _ _) _ _ _ _ :: _) _ _); refine wl_idxloadE (s := shTensor) (j := b) rfl rfl rfl rfl (fun _ => rfl) rfl rfl rfl ((KT.out.ext (by (repeat (first | with_reducible exact Ext.refl _ | with_reducible assumption | ((with_reducible refine Ext.setCell ?_ ?_ _); rotate_left; focus (first | (simp; done) | (simp; omega))) | (with_reducible refine Ext.trans ?_ (Ext.alloc _ _)) | (with_reducible refine Ext.trans ?_ (Ext.drew _)) | (with_reducible refine Ext.trans ?_ (by with_reducible assumption)))))).cs) KT.out.size KT.out.cnt hb hqs HCB.out ?_; simp only [ofCs, Sh.agg, if_true]) | fail)
      rw [← hW0]
      clear hW0
      refine (K.out).mono ?_
      rintro e w1 ⟨tq, tk, ws, rfl, own, hf3, e1⟩
      rw [HX.out] at own ⊢
      have b6x := b6.ext e1
      have hs1 := e1.size
      go_wp2_with (first | ((with_reducible show wpList _ _ _ (Oper.mk _ (Op.store _ _ _) _ _ _ _ :: _) _ _); refine wl_st3 (y0 := .int .i64 ra) (y1 := .int .i64 cca) (y2 := .slice tq Na tk) rfl rfl rfl rfl b6x rfl rfl rfl ?_; intro w2 d6 ch; have n0 := d6.cell 0 rfl; have n1 := d6.cell 1 rfl; have n2 := d6.cell 2 rfl; have e9 := (E0.trans e1).chg ch (fun k hk => by omega); have hs9 := e9.size; have G1 := hid (HG.out.ext e9); have hrow := G1.out.row; rw [HVLi.out] at hrow) | ((with_reducible show wpList _ _ _ (Oper.mk _ (Op.buildSlice _ _ _) _ _ _ _ :: Oper.mk _ (Op.call _) _ _ _ _ :: _) _ _); refine wl_app1b (u := .agg #[.int .i64 ra, .int .i64 cca, .slice tq Na tk]) rfl rfl rfl rfl rfl rfl rfl (fun _ => rfl) (fun _ => rfl) hrow (by unfold maxLen; omega) (by omega) (by omega) ?_; intro g9 c9 w9 own9 g9' hg9) | fail)
      have own' := own_base (own_chgB own ch (fun k hk => by omega)) (show wr.heap.size ≤ W0.heap.size by omega)
      obtain ⟨ho1, ho2, ho3⟩ := own_mk (r := ra) (c := cca) HX.out own' hf3
      go_roundw
      case rel =>
       have hsn := HG.out.snoc e9 ho1 ho2 ho3 hle HVLi.out own9 g9' hg9
       exact ⟨i + 1, _, _, by omega, by go_num, by rw [HVi.out]; exact hsn, (he.trans e9).grown g9' (fun k hk => by have := own_le hrow k hk; omega)⟩
      case measure => simp [intOf]; omega
    | mul a b ha hb h1 h2 =>
      as_aux_lemma =>
      obtain ⟨zb, ct, rfl, hz, ht⟩ := mkOp_vals Hro.out
      obtain ⟨qt, ct', ut, rfl, hpt, _⟩ := ten_vals ht
      obtain ⟨ca, hca, hva⟩ := Hke.out a ha
      have hsa := Hsi.out a (by omega)
      obtain ⟨cb, hcb, hvb⟩ := Hke.out b hb
      have hsb := Hsi.out b (by omega)
      rw [valT_mk (by decide)] at HVi
      generalize (valsT ops i).getD a t0 = va at hva HVi
      generalize (valsT ops i).getD b t0 = vb at hvb HVi
      generalize sh a = sa at *
      generalize sh b = sb at *
      obtain ⟨qa, ka, ua, xs, rfl, rfl, la, p1, p2, p3, p4⟩ := hva
      obtain ⟨qb, kb, ub, ys, rfl, rfl, lb, g1, g2, g3, g4⟩ := hvb
      obtain ⟨rb, ccb⟩ := sb
      obtain ⟨j1, j2, j3, j4⟩ := hsb
      obtain ⟨ra, cca⟩ := sa
      obtain ⟨i1, i2, i3, i4⟩ := hsa
      dsimp only at *
      obtain ⟨Na, hNa⟩ : ∃ N, N = ra * cca := ⟨_, rfl⟩
      have hNa2 : Na ≤ 256 := by rw [hNa]; exact Nat.mul_le_mul i2 i4
      rw [← hNa] at la p3 hca
      obtain ⟨Nb, hNb⟩ : ∃ N, N = rb * ccb := ⟨_, rfl⟩
      have hNb2 : Nb ≤ 256 := by rw [hNb]; exact Nat.mul_le_mul j2 j4
      rw [← hNb] at lb g3 hcb
      simp only [List.cons_append, List.nil_append, t0, List.length_nil] at Hoc
      obtain ⟨W0, hW0⟩ : ∃ W0, W0 = (((wr.alloc (.cells #[.int .i64 3, .int .i64 a, .int .i64 b, .float .f32 zb, .int .i64 0, .int .i64 0, .slice qt 0 ct'] 79)).alloc (.cells #[.int .i64 0, .int .i64 0, .slice none 0 0] 37)).alloc (.cells #[.int .i64 ra, .int .i64 cca, .slice qa Na ka] 37)).alloc (.cells #[.int .i64 rb, .int .i64 ccb, .slice qb Nb kb] 37) := ⟨_, rfl⟩
      obtain ⟨E0, s0, b5, b6, b7, b8⟩ := box4 hW0
      have hnm : Na ≤ Nb := by rw [hNa, hNb, show rb = ra from congrArg Prod.fst h1, show ccb = cca from congrArg Prod.snd h1]; exact Nat.le_refl _
      have K := hid (l02Mul_any (sp := none) (sq := none) (wr.heap.size + 1 + 1) 0 ra cca qa Na ka ua xs (wr.heap.size + 1 + 1 + 1) 0 qb Nb kb ub ys W0 (b7.cell 0 rfl) (b7.cell 1 rfl) (b7.cell 2 rfl) la (by omega) (p1.ext E0) p2 (b8.cell 2 rfl) lb hnm (by omega) (g1.ext E0) g2)
      have HX : Hid ((mulX Na xs ys).length = Na) := ntab_len _ _
      have HV : Hid ((opV 3 0 (tn ra cca xs) (tn rb ccb ys)) = ((ra : Int), (cca : Int), mulX Na xs ys, ())) := hid (by simp only [opV]; simp only [tn, la]; (try rfl))
      rw [HV.out] at HVi
      generalize mulX Na xs ys = res at *
      have HCA := hid hca
      have hqs := Hq.out (by omega)
      have HCB := hid hcb
      clear hcb hNb g1 g2 g3 g4 lb
      clear ht hpt hca hz hNa p1 p2 p3 p4 la HV h1
      go_wp2_with (first | ((with_reducible show wpList _ _ _ (Oper.mk _ (Op.indexAddr _ _ _) _ _ _ _ :: Oper.mk _ (Op.load _ _) _ _ _ _ :: _) _ _); refine wl_idxloadE (s := shOp) (j := i) rfl rfl rfl rfl (fun _ => rfl) rfl rfl rfl hcs hsz hcnt hlt hps Hoc.out ?_; simp only [ofCs, Sh.agg, if_true]) | ((with_reducible show wpList _ _ _ (Oper.mk _ (Op.indexAddr _ _ _) _ _ _ _ :: Oper.mk _ (Op.load _ _) _ _ _ _ :: _) _ _); refine wl_idxloadE (s := shTensor) (j := a) rfl rfl rfl rfl (fun _ => rfl) rfl rfl rfl ((KT.out.ext (by (repeat (first | with_reducible exact Ext.refl _ | with_reducible assumption | ((with_reducible refine Ext.setCell ?_ ?_ _); rotate_left; focus (first | (simp; done) | (simp; omega))) | (with_reducible refine Ext.trans ?_ (Ext.alloc _ _)) | (with_reducible refine Ext.trans ?_ (Ext.drew _)) | (with_reducible refine Ext.trans ?_ (by with_reducible assumption)))))).cs) KT.out.size KT.out.cnt ha hqs HCA.out ?_; simp only [ofCs, Sh.agg, if_true]) | ((with_reducible show wpList _ _ _ (Oper.mk _ (Op.indexAddr _ _ _) _ _ _ _ :: Oper.mk _ (Op.load _ _) _ _ _ _ :: _) _ _); refine wl_idxloadE (s := shTensor) (j := b) rfl rfl rfl rfl (fun _ => rfl) rfl rfl rfl ((KT.out.ext (by (repeat (first | with_reducible exact Ext.refl _ | with_reducible assumption | ((with_reducible refine Ext.setCell ?_ ?_ _); rotate_left; focus (first | (simp; done) | (simp; omega))) | (with_reducible refine Ext.trans ?_ (Ext.alloc _ _)) | (with_reducible refine Ext.trans ?_ (Ext.drew _)) | (with_reducible refine Ext.trans ?_ (by with_reducible assumption)))))).cs) KT.out.size KT.out.cnt hb hqs HCB.out ?_; simp only [ofCs, Sh.agg, if_true]) | fail)
      rw [← hW0]
      clear hW0
      refine (K.out).mono ?_
      rintro e w1 ⟨tq, tk, ws, rfl, own, hf3, e1⟩
      rw [HX.out] at own ⊢
      have b6x := b6.ext e1
      have hs1 := e1.size
      go_wp2_with (first | ((with_reducible show wpList _ _ _ (Oper.mk _ (Op.store _ _ _) _ _ _ _ :: _) _ _); refine wl_st3 (y0 := .int .i64 ra) (y1 := .int .i64 cca) (y2 := .slice tq Na tk) rfl rfl rfl rfl b6x rfl rfl rfl ?_; intro w2 d6 ch; have n0 := d6.cell 0 rfl; have n1 := d6.cell 1 rfl; have n2 := d6.cell 2 rfl; have e9 := (E0.trans e1).chg ch (fun k hk => by omega); have hs9 := e9.size; have G1 := hid (HG.out.ext e9); have hrow := G1.out.row; rw [HVLi.out] at hrow) | ((with_reducible show wpList _ _ _ (Oper.mk _ (Op.buildSlice _ _ _) _ _ _ _ :: Oper.mk _ (Op.call _) _ _ _ _ :: _) _ _); refine wl_app1b (u := .agg #[.int .i64 ra, .int .i64 cca, .slice tq Na tk]) rfl rfl rfl rfl rfl rfl rfl (fun _ => rfl) (fun _ => rfl) hrow (by unfold maxLen; omega) (by omega) (by omega) ?_; intro g9 c9 w9 own9 g9' hg9) | fail)
      have own' := own_base (own_chgB own ch (fun k hk => by omega)) (show wr.heap.size ≤ W0.heap.size by omega)
      obtain ⟨ho1, ho2, ho3⟩ := own_mk (r := ra) (c := cca) HX.out own' hf3
      go_roundw
      case rel =>
       have hsn := HG.out.snoc e9 ho1 ho2 ho3 hle HVLi.out own9 g9' hg9
       exact ⟨i + 1, _, _, by omega, by go_num, by rw [HVi.out]; exact hsn, (he.trans e9).grown g9' (fun k hk => by have := own_le hrow k hk; omega)⟩
      case measure => simp [intOf]; omega
    | addR a b ha hb h1 h2 =>
      as_aux_lemma =>
      obtain ⟨zb, ct, rfl, hz, ht⟩ := mkOp_vals Hro.out
      obtain ⟨qt, ct', ut, rfl, hpt, _⟩ := ten_vals ht
      obtain ⟨ca, hca, hva⟩ := Hke.out a ha
      have hsa := Hsi.out a (by omega)
      obtain ⟨cb, hcb, hvb⟩ := Hke.out b hb
      have hsb := Hsi.out b (by omega)
      rw [valT_mk (by decide)] at HVi
      generalize (valsT ops i).getD a t0 = va at hva HVi
      generalize (valsT ops i).getD b t0 = vb at hvb HVi
      generalize sh a = sa at *
      generalize sh b = sb at *
      obtain ⟨qa, ka, ua, xs, rfl, rfl, la, p1, p2, p3, p4⟩ := hva
      obtain ⟨qb, kb, ub, ys, rfl, rfl, lb, g1, g2, g3, g4⟩ := hvb
      obtain ⟨rb, ccb⟩ := sb
      obtain ⟨j1, j2, j3, j4⟩ := hsb
      obtain ⟨ra, cca⟩ := sa
      obtain ⟨i1, i2, i3, i4⟩ := hsa
      dsimp only at *
      obtain ⟨Na, hNa⟩ : ∃ N, N = ra * cca := ⟨_, rfl⟩
      have hNa2 : Na ≤ 256 := by rw [hNa]; exact Nat.mul_le_mul i2 i4
      rw [← hNa] at la p3 hca
      obtain ⟨Nb, hNb⟩ : ∃ N, N = rb * ccb := ⟨_, rfl⟩
      have hNb2 : Nb ≤ 256 := by rw [hNb]; exact Nat.mul_le_mul j2 j4
      rw [← hNb] at lb g3 hcb
      simp only [List.cons_append, List.nil_append, t0, List.length_nil] at Hoc
      obtain ⟨W0, hW0⟩ : ∃ W0, W0 = (((wr.alloc (.cells #[.int .i64 2, .int .i64 a, .int .i64 b, .float .f32 zb, .int .i64 0, .int .i64 0, .slice qt 0 ct'] 79)).alloc (.cells #[.int .i64 0, .int .i64 0, .slice none 0 0] 37)).alloc (.cells #[.int .i64 ra, .int .i64 cca, .slice qa Na ka] 37)).alloc (.cells #[.int .i64 rb, .int .i64 ccb, .slice qb Nb kb] 37) := ⟨_, rfl⟩
      obtain ⟨E0, s0, b5, b6, b7, b8⟩ := box4 hW0
      have hm1 : 1 ≤ Nb := by rw [hNb]; exact Nat.mul_le_mul j1 j3
      have hNc : Nb = cca := by rw [hNb, show rb = 1 from congrArg Prod.fst h1, show ccb = cca from congrArg Prod.snd h1]; omega
      have K : Hid (Calls Tryz.prog 92 #[.pointer (some ⟨wr.heap.size + 1 + 1, 0, none⟩), .slice qb Nb kb] W0 (RetTen W0 ra cca (addRX Na Nb xs ys))) := hid (by
       have h := l02AddRow_any (sp := none) (wr.heap.size + 1 + 1) 0 ra qa Na ka ua xs qb Nb kb ub ys W0 (b7.cell 0 rfl) (by rw [hNc]; exact b7.cell 1 rfl) (b7.cell 2 rfl) la (by omega) (p1.ext E0) p2 lb hm1 (by omega) (g1.ext E0) g2
       rw [show ((Nb : Nat) : Int) = ((cca : Nat) : Int) by rw [hNc]] at h
       exact h)
      have HX : Hid ((addRX Na Nb xs ys).length = Na) := ntab_len _ _
      have HV : Hid ((opV 2 0 (tn ra cca xs) (tn rb ccb ys)) = ((ra : Int), (cca : Int), addRX Na Nb xs ys, ())) := hid (by simp only [opV]; simp only [tn, la, hNc, Int.toNat_natCast]; (try rfl))
      rw [HV.out] at HVi
      generalize addRX Na Nb xs ys = res at *
      have HCA := hid hca
      have hqs := Hq.out (by omega)
      have HCB := hid hcb
      clear hcb hNb g1 g2 g3 g4 lb
      clear ht hpt hca hz hNa p1 p2 p3 p4 la HV h1 hNc hm1
      go_wp2_with (first | ((with_reducible show wpList _ _ _ (Oper.mk _ (Op.indexAddr _ _ _) _ _ _ _ :: Oper.mk _ (Op.load _ _) _ _ _ _ :: _) _ _); refine wl_idxloadE (s := shOp) (j := i) rfl rfl rfl rfl (fun _ => rfl) rfl rfl rfl hcs hsz hcnt hlt hps Hoc.out ?_; simp only [ofCs, Sh.agg, if_true]) | ((with_reducible show wpList _ _ _ (Oper.mk _ (Op.indexAddr _ _ _) _ _ _ _ :: Oper.mk _ (Op.load _ _) _ _ _ _ :: _) _ _); refine wl_idxloadE (s := shTensor) (j := a) rfl rfl rfl rfl (fun _ => rfl) rfl rfl rfl ((KT.out.ext (by (repeat (first | with_reducible exact Ext.refl _ | with_reducible assumption | ((with_reducible refine Ext.setCell ?_ ?_ _); rotate_left; focus (first | (simp; done) | (simp; omega))) | (with_reducible refine Ext.trans ?_ (Ext.alloc _ _)) | (with_reducible refine Ext.trans ?_ (Ext.drew _)) | (with_reducible refine Ext.trans ?_ (by with_reducible assumption)))))).cs) KT.out.size KT.out.cnt ha hqs HCA.out ?_; simp only [ofCs, Sh.agg, if_true]) | ((with_reducible show wpList _ _ _ (Oper.mk _ (Op.indexAddr _ _ _) _ _ _ _ :: Oper.mk _ (Op.load _ _) _ _ _ _ :: _) _ _); refine wl_idxloadE (s := shTensor) (j := b) rfl rfl rfl rfl (fun _ => rfl) rfl rfl rfl ((KT.out.ext (by (repeat (first | with_reducible exact Ext.refl _ | with_reducible assumption | ((with_reducible refine Ext.setCell ?_ ?_ _); rotate_left; focus (first | (simp; done) | (simp; omega))) | (with_reducible refine Ext.trans ?_ (Ext.alloc _ _)) | (with_reducible refine Ext.trans ?_ (Ext.drew _)) | (with_reducible refine Ext.trans ?_ (by with_reducible assumption)))))).cs) KT.out.size KT.out.cnt hb hqs HCB.out ?_; simp only [ofCs, Sh.agg, if_true]) | fail)
      rw [← hW0]
      clear hW0
      refine (K.out).mono ?_
      rintro e w1 ⟨tq, tk, ws, rfl, own, hf3, e1⟩
      rw [HX.out] at own ⊢
      have b6x := b6.ext e1
      have hs1 := e1.size
      go_wp2_with (first | ((with_reducible show wpList _ _ _ (Oper.mk _ (Op.store _ _ _) _ _ _ _ :: _) _ _); refine wl_st3 (y0 := .int .i64 ra) (y1 := .int .i64 cca) (y2 := .slice tq Na tk) rfl rfl rfl rfl b6x rfl rfl rfl ?_; intro w2 d6 ch; have n0 := d6.cell 0 rfl; have n1 := d6.cell 1 rfl; have n2 := d6.cell 2 rfl; have e9 := (E0.trans e1).chg ch (fun k hk => by omega); have hs9 := e9.size; have G1 := hid (HG.out.ext e9); have hrow := G1.out.row; rw [HVLi.out] at hrow) | ((with_reducible show wpList _ _ _ (Oper.mk _ (Op.buildSlice _ _ _) _ _ _ _ :: Oper.mk _ (Op.call _) _ _ _ _ :: _) _ _); refine wl_app1b (u := .agg #[.int .i64 ra, .int .i64 cca, .slice tq Na tk]) rfl rfl rfl rfl rfl rfl rfl (fun _ => rfl) (fun _ => rfl) hrow (by unfold maxLen; omega) (by omega) (by omega) ?_; intro g9 c9 w9 own9 g9' hg9) | fail)
      have own' := own_base (own_chgB own ch (fun k hk => by omega)) (show wr.heap.size ≤ W0.heap.size by omega)
      obtain ⟨ho1, ho2, ho3⟩ := own_mk (r := ra) (c := cca) HX.out own' hf3
      go_roundw
      case rel =>
       have hsn := HG.out.snoc e9 ho1 ho2 ho3 hle HVLi.out own9 g9' hg9
       exact ⟨i + 1, _, _, by omega, by go_num, by rw [HVi.out]; exact hsn, (he.trans e9).grown g9' (fun k hk => by have := own_le hrow k hk; omega)⟩
      case measure => simp [intOf]; omega
    | mulR a b ha hb h1 h2 =>
      as_aux_lemma =>
      obtain ⟨zb, ct, rfl, hz, ht⟩ := mkOp_vals Hro.out
      obtain ⟨qt, ct', ut, rfl, hpt, _⟩ := ten_vals ht
      obtain ⟨ca, hca, hva⟩ := Hke.out a ha
      have hsa := Hsi.out a (by omega)
      obtain ⟨cb, hcb, hvb⟩ := Hke.out b hb
      have hsb := Hsi.out b (by omega)
      rw [valT_mk (by decide)] at HVi
      generalize (valsT ops i).getD a t0 = va at hva HVi
      generalize (valsT ops i).getD b t0 = vb at hvb HVi
      generalize sh a = sa at *
      generalize sh b = sb at *
      obtain ⟨qa, ka, ua, xs, rfl, rfl, la, p1, p2, p3, p4⟩ := hva
      obtain ⟨qb, kb, ub, ys, rfl, rfl, lb, g1, g2, g3, g4⟩ := hvb
      obtain ⟨rb, ccb⟩ := sb
      obtain ⟨j1, j2, j3, j4⟩ := hsb
      obtain ⟨ra, cca⟩ := sa
      obtain ⟨i1, i2, i3, i4⟩ := hsa
      dsimp only at *
      obtain ⟨Na, hNa⟩ : ∃ N, N = ra * cca := ⟨_, rfl⟩
      have hNa2 : Na ≤ 256 := by rw [hNa]; exact Nat.mul_le_mul i2 i4
      rw [← hNa] at la p3 hca
      obtain ⟨Nb, hNb⟩ : ∃ N, N = rb * ccb := ⟨_, rfl⟩
      have hNb2 : Nb ≤ 256 := by rw [hNb]; exact Nat.mul_le_mul j2 j4
      rw [← hNb] at lb g3 hcb
      simp only [List.cons_append, List.nil_append, t0, List.length_nil] at Hoc
      obtain ⟨W0, hW0⟩ : ∃ W0, W0 = (((wr.alloc (.cells #[.int .i64 4, .int .i64 a, .int .i64 b, .float .f32 zb, .int .i64 0, .int .i64 0, .slice qt 0 ct'] 79)).alloc (.cells #[.int .i64 0, .int .i64 0, .slice none 0 0] 37)).alloc (.cells #[.int .i64 ra, .int .i64 cca, .slice qa Na ka] 37)).alloc (.cells #[.int .i64 rb, .int .i64 ccb, .slice qb Nb kb] 37) := ⟨_, rfl⟩
      obtain ⟨E0, s0, b5, b6, b7, b8⟩ := box4 hW0
      have hm1 : 1 ≤ Nb := by rw [hNb]; exact Nat.mul_le_mul j1 j3
      have hNc : Nb = cca := by rw [hNb, show rb = 1 from congrArg Prod.fst h1, show ccb = cca from congrArg Prod.snd h1]; omega
      have K : Hid (Calls Tryz.prog 94 #[.pointer (some ⟨wr.heap.size + 1 + 1, 0, none⟩), .slice qb Nb kb] W0 (RetTen W0 ra cca (mulRX Na Nb xs ys))) := hid (by
       have h := l02MulRow_any (sp := none) (wr.heap.size + 1 + 1) 0 ra qa Na ka ua xs qb Nb kb ub ys W0 (b7.cell 0 rfl) (by rw [hNc]; exact b7.cell 1 rfl) (b7.cell 2 rfl) la (by omega) (p1.ext E0) p2 lb hm1 (by omega) (g1.ext E0) g2
       rw [show ((Nb : Nat) : Int) = ((cca : Nat) : Int) by rw [hNc]] at h
       exact h)
      have HX : Hid ((mulRX Na Nb xs ys).length = Na) := ntab_len _ _
      have HV : Hid ((opV 4 0 (tn ra cca xs) (tn rb ccb ys)) = ((ra : Int), (cca : Int), mulRX Na Nb xs ys, ())) := hid (by simp only [opV]; simp only [tn, la, hNc, Int.toNat_natCast]; (try rfl))
      rw [HV.out] at HVi
      generalize mulRX Na Nb xs ys = res at *
      have HCA := hid hca
      have hqs := Hq.out (by omega)
      have HCB := hid hcb
      clear hcb hNb g1 g2 g3 g4 lb
      clear ht hpt hca hz hNa p1 p2 p3 p4 la HV h1 hNc hm1
      go_wp2_with (first | ((with_reducible show wpList _ _ _ (Oper.mk _ (Op.indexAddr _ _ _) _ _ _ _ :: Oper.mk _ (Op.load _ _) _ _ _ _ :: _) _ _); refine wl_idxloadE (s := shOp) (j := i) rfl rfl rfl rfl (fun _ => rfl) rfl rfl rfl hcs hsz hcnt hlt hps Hoc.out ?_; simp only [ofCs, Sh.agg, if_true]) | ((with_reducible show wpList _ _ _ (Oper.mk _ (Op.indexAddr _ _ _) _ _ _ _ :: Oper.mk _ (Op.load _ _) _ _ _ _ :: _) _ _); refine wl_idxloadE (s := shTensor) (j := a) rfl rfl rfl rfl (fun _ => rfl) rfl rfl rfl ((KT.out.ext (by (repeat (first | with_reducible exact Ext.refl _ | with_reducible assumption | ((with_reducible refine Ext.setCell ?_ ?_ _); rotate_left; focus (first | (simp; done) | (simp; omega))) | (with_reducible refine Ext.trans ?_ (Ext.alloc _ _)) | (with_reducible refine Ext.trans ?_ (Ext.drew _)) | (with_reducible refine Ext.trans ?_ (by with_reducible assumption)))))).cs) KT.out.size KT.out.cnt ha hqs HCA.out ?_; simp only [ofCs, Sh.agg, if_true]) | ((with_reducible show wpList _ _ _ (Oper.mk _ (Op.indexAddr _ _ _) _ _ _ _ :: Oper.mk _ (Op.load _ _) _ _ _ _ :: _) _ _); refine wl_idxloadE (s := shTensor) (j := b) rfl rfl rfl rfl (fun _ => rfl) rfl rfl rfl ((KT.out.ext (by (repeat (first | with_reducible exact Ext.refl _ | with_reducible assumption | ((with_reducible refine Ext.setCell ?_ ?_ _); rotate_left; focus (first | (simp; done) | (simp; omega))) | (with_reducible refine Ext.trans ?_ (Ext.alloc _ _)) | (with_reducible refine Ext.trans ?_ (Ext.drew _)) | (with_reducible refine Ext.trans ?_ (by with_reducible assumption)))))).cs) KT.out.size KT.out.cnt hb hqs HCB.out ?_; simp only [ofCs, Sh.agg, if_true]) | fail)
      rw [← hW0]
      clear hW0
      refine (K.out).mono ?_
      rintro e w1 ⟨tq, tk, ws, rfl, own, hf3, e1⟩
      rw [HX.out] at own ⊢
      have b6x := b6.ext e1
      have hs1 := e1.size
      go_wp2_with (first | ((with_reducible show wpList _ _ _ (Oper.mk _ (Op.store _ _ _) _ _ _ _ :: _) _ _); refine wl_st3 (y0 := .int .i64 ra) (y1 := .int .i64 cca) (y2 := .slice tq Na tk) rfl rfl rfl rfl b6x rfl rfl rfl ?_; intro w2 d6 ch; have n0 := d6.cell 0 rfl; have n1 := d6.cell 1 rfl; have n2 := d6.cell 2 rfl; have e9 := (E0.trans e1).chg ch (fun k hk => by omega); have hs9 := e9.size; have G1 := hid (HG.out.ext e9); have hrow := G1.out.row; rw [HVLi.out] at hrow) | ((with_reducible show wpList _ _ _ (Oper.mk _ (Op.buildSlice _ _ _) _ _ _ _ :: Oper.mk _ (Op.call _) _ _ _ _ :: _) _ _); refine wl_app1b (u := .agg #[.int .i64 ra, .int .i64 cca, .slice tq Na tk]) rfl rfl rfl rfl rfl rfl rfl (fun _ => rfl) (fun _ => rfl) hrow (by unfold maxLen; omega) (by omega) (by omega) ?_; intro g9 c9 w9 own9 g9' hg9) | fail)
      have own' := own_base (own_chgB own ch (fun k hk => by omega)) (show wr.heap.size ≤ W0.heap.size by omega)
      obtain ⟨ho1, ho2, ho3⟩ := own_mk (r := ra) (c := cca) HX.out own' hf3
      go_roundw
      case rel =>
       have hsn := HG.out.snoc e9 ho1 ho2 ho3 hle HVLi.out own9 g9' hg9
       exact ⟨i + 1, _, _, by omega, by go_num, by rw [HVi.out]; exact hsn, (he.trans e9).grown g9' (fun k hk => by have := own_le hrow k hk; omega)⟩
      case measure => simp [intOf]; omega
    | scl a z ha h2 =>
      as_aux_lemma =>
      obtain ⟨zb, ct, rfl, hz, ht⟩ := mkOp_vals Hro.out
      obtain ⟨qt, ct', ut, rfl, hpt, _⟩ := ten_vals ht
      obtain ⟨ca, hca, hva⟩ := Hke.out a ha
      have hsa := Hsi.out a (by omega)
      obtain ⟨cb, hcb, hvb⟩ := Hke.out 0 (by omega)
      have hsb := Hsi.out 0 (by omega)
      rw [valT_mk (by decide)] at HVi
      generalize (valsT ops i).getD a t0 = va at hva HVi
      generalize (valsT ops i).getD 0 t0 = vb at hvb HVi
      generalize sh a = sa at *
      generalize sh 0 = sb at *
      obtain ⟨qa, ka, ua, xs, rfl, rfl, la, p1, p2, p3, p4⟩ := hva
      obtain ⟨qb, kb, ub, ys, rfl, rfl, lb, g1, g2, g3, g4⟩ := hvb
      obtain ⟨rb, ccb⟩ := sb
      obtain ⟨j1, j2, j3, j4⟩ := hsb
      obtain ⟨ra, cca⟩ := sa
      obtain ⟨i1, i2, i3, i4⟩ := hsa
      dsimp only at *
      obtain ⟨Na, hNa⟩ : ∃ N, N = ra * cca := ⟨_, rfl⟩
      have hNa2 : Na ≤ 256 := by rw [hNa]; exact Nat.mul_le_mul i2 i4
      rw [← hNa] at la p3 hca
      obtain ⟨Nb, hNb⟩ : ∃ N, N = rb * ccb := ⟨_, rfl⟩
      have hNb2 : Nb ≤ 256 := by rw [hNb]; exact Nat.mul_le_mul j2 j4
      rw [← hNb] at lb g3 hcb
      simp only [List.cons_append, List.nil_append, t0, List.length_nil] at Hoc
      obtain ⟨W0, hW0⟩ : ∃ W0, W0 = (((wr.alloc (.cells #[.int .i64 5, .int .i64 a, .int .i64 0, .float .f32 zb, .int .i64 0, .int .i64 0, .slice qt 0 ct'] 79)).alloc (.cells #[.int .i64 0, .int .i64 0, .slice none 0 0] 37)).alloc (.cells #[.int .i64 ra, .int .i64 cca, .slice qa Na ka] 37)).alloc (.cells #[.int .i64 rb, .int .i64 ccb, .slice qb Nb kb] 37) := ⟨_, rfl⟩
      obtain ⟨E0, s0, b5, b6, b7, b8⟩ := box4 hW0
      have K := hid (l02Scale_any (sp := none) (wr.heap.size + 1 + 1) 0 ra cca qa Na ka ua xs zb z W0 (b7.cell 0 rfl) (b7.cell 1 rfl) (b7.cell 2 rfl) la (by omega) (p1.ext E0) p2 hz)
      have HX : Hid ((sclX Na xs z).length = Na) := ntab_len _ _
      have HV : Hid ((opV 5 z (tn ra cca xs) (tn rb ccb ys)) = ((ra : Int), (cca : Int), sclX Na xs z, ())) := hid (by simp only [opV]; simp only [tn, la]; (try rfl))
      rw [HV.out] at HVi
      generalize sclX Na xs z = res at *
      have HCA := hid hca
      have hqs := Hq.out (by omega)
      have HCB := hid hcb
      clear hcb hNb g1 g2 g3 g4 lb
      clear ht hpt hca hz hNa p1 p2 p3 p4 la HV
      go_wp2_with (first | ((with_reducible show wpList _ _ _ (Oper.mk _ (Op.indexAddr _ _ _) _ _ _ _ :: Oper.mk _ (Op.load _ _) _ _ _ _ :: _) _ _); refine wl_idxloadE (s := shOp) (j := i) rfl rfl rfl rfl (fun _ => rfl) rfl rfl rfl hcs hsz hcnt hlt hps Hoc.out ?_; simp only [ofCs, Sh.agg, if_true]) | ((with_reducible show wpList _ _ _ (Oper.mk _ (Op.indexAddr _ _ _) _ _ _ _ :: Oper.mk _ (Op.load _ _) _ _ _ _ :: _) _ _); refine wl_idxloadE (s := shTensor) (j := a) rfl rfl rfl rfl (fun _ => rfl) rfl rfl rfl ((KT.out.ext (by (repeat (first | with_reducible exact Ext.refl _ | with_reducible assumption | ((with_reducible refine Ext.setCell ?_ ?_ _); rotate_left; focus (first | (simp; done) | (simp; omega))) | (with_reducible refine Ext.trans ?_ (Ext.alloc _ _)) | (with_reducible refine Ext.trans ?_ (Ext.drew _)) | (with_reducible refine Ext.trans ?_ (by with_reducible assumption)))))).cs) KT.out.size KT.out.cnt ha hqs HCA.out ?_; simp only [ofCs, Sh.agg, if_true]) | ((with_reducible show wpList _ _ _ (Oper.mk _ (Op.indexAddr _ _ _) _ _ _ _ :: Oper.mk _ (Op.load _ _) _ _ _ _ :: _) _ _); refine wl_idxloadE (s := shTensor) (j := 0) rfl rfl rfl rfl (fun _ => rfl) rfl rfl rfl ((KT.out.ext (by (repeat (first | with_reducible exact Ext.refl _ | with_reducible assumption | ((with_reducible refine Ext.setCell ?_ ?_ _); rotate_left; focus (first | (simp; done) | (simp; omega))) | (with_reducible refine Ext.trans ?_ (Ext.alloc _ _)) | (with_reducible refine Ext.trans ?_ (Ext.drew _)) | (with_reducible refine Ext.trans ?_ (by with_reducible assumption)))))).cs) KT.out.size KT.out.cnt (by omega) hqs HCB.out ?_; simp only [ofCs, Sh.agg, if_true]) | fail)
      rw [← hW0]
      clear hW0
      refine (K.out).mono ?_
      rintro e w1 ⟨tq, tk, ws, rfl, own, hf3, e1⟩
      rw [HX.out] at own ⊢
      have b6x := b6.ext e1
      have hs1 := e1.size
      go_wp2_with (first | ((with_reducible show wpList _ _ _ (Oper.mk _ (Op.store _ _ _) _ _ _ _ :: _) _ _); refine wl_st3 (y0 := .int .i64 ra) (y1 := .int .i64 cca) (y2 := .slice tq Na tk) rfl rfl rfl rfl b6x rfl rfl rfl ?_; intro w2 d6 ch; have n0 := d6.cell 0 rfl; have n1 := d6.cell 1 rfl; have n2 := d6.cell 2 rfl; have e9 := (E0.trans e1).chg ch (fun k hk => by omega); have hs9 := e9.size; have G1 := hid (HG.out.ext e9); have hrow := G1.out.row; rw [HVLi.out] at hrow) | ((with_reducible show wpList _ _ _ (Oper.mk _ (Op.buildSlice _ _ _) _ _ _ _ :: Oper.mk _ (Op.call _) _ _ _ _ :: _) _ _); refine wl_app1b (u := .agg #[.int .i64 ra, .int .i64 cca, .slice tq Na tk]) rfl rfl rfl rfl rfl rfl rfl (fun _ => rfl) (fun _ => rfl) hrow (by unfold maxLen; omega) (by omega) (by omega) ?_; intro g9 c9 w9 own9 g9' hg9) | fail)
      have own' := own_base (own_chgB own ch (fun k hk => by omega)) (show wr.heap.size ≤ W0.heap.size by omega)
      obtain ⟨ho1, ho2, ho3⟩ := own_mk (r := ra) (c := cca) HX.out own' hf3
      go_roundw
      case rel =>
       have hsn := HG.out.snoc e9 ho1 ho2 ho3 hle HVLi.out own9 g9' hg9
       exact ⟨i + 1, _, _, by omega, by go_num, by rw [HVi.out]; exact hsn, (he.trans e9).grown g9' (fun k hk => by have := own_le hrow k hk; omega)⟩
      case measure => simp [intOf]; omega
    | mm a b ha hb h1 h2 =>
      as_aux_lemma =>
      obtain ⟨zb, ct, rfl, hz, ht⟩ := mkOp_vals Hro.out
      obtain ⟨qt, ct', ut, rfl, hpt, _⟩ := ten_vals ht
      obtain ⟨ca, hca, hva⟩ := Hke.out a ha
      have hsa := Hsi.out a (by omega)
      obtain ⟨cb, hcb, hvb⟩ := Hke.out b hb
      have hsb := Hsi.out b (by omega)
      rw [valT_mk (by decide)] at HVi
      generalize (valsT ops i).getD a t0 = va at hva HVi
      generalize (valsT ops i).getD b t0 = vb at hvb HVi
      generalize sh a = sa at *
      generalize sh b = sb at *
      obtain ⟨qa, ka, ua, xs, rfl, rfl, la, p1, p2, p3, p4⟩ := hva
      obtain ⟨qb, kb, ub, ys, rfl, rfl, lb, g1, g2, g3, g4⟩ := hvb
      obtain ⟨rb, ccb⟩ := sb
      obtain ⟨j1, j2, j3, j4⟩ := hsb
      obtain ⟨ra, cca⟩ := sa
      obtain ⟨i1, i2, i3, i4⟩ := hsa
      dsimp only at *
      obtain ⟨Na, hNa⟩ : ∃ N, N = ra * cca := ⟨_, rfl⟩
      have hNa2 : Na ≤ 256 := by rw [hNa]; exact Nat.mul_le_mul i2 i4
      rw [← hNa] at la p3 hca
      obtain ⟨Nb, hNb⟩ : ∃ N, N = rb * ccb := ⟨_, rfl⟩
      have hNb2 : Nb ≤ 256 := by rw [hNb]; exact Nat.mul_le_mul j2 j4
      rw [← hNb] at lb g3 hcb
      simp only [List.cons_append, List.nil_append, t0, List.length_nil] at Hoc
      obtain ⟨W0, hW0⟩ : ∃ W0, W0 = (((wr.alloc (.cells #[.int .i64 6, .int .i64 a, .int .i64 b, .float .f32 zb, .int .i64 0, .int .i64 0, .slice qt 0 ct'] 79)).alloc (.cells #[.int .i64 0, .int .i64 0, .slice none 0 0] 37)).alloc (.cells #[.int .i64 ra, .int .i64 cca, .slice qa Na ka] 37)).alloc (.cells #[.int .i64 rb, .int .i64 ccb, .slice qb Nb kb] 37) := ⟨_, rfl⟩
      obtain ⟨E0, s0, b5, b6, b7, b8⟩ := box4 hW0
      have hrc : rb = cca := h1
      have K : Hid (Calls Tryz.prog 96 #[.pointer (some ⟨wr.heap.size + 1 + 1, 0, none⟩), .pointer (some ⟨wr.heap.size + 1 + 1 + 1, 0, none⟩)] W0 (RetTen W0 ra ccb (mmX ra cca ccb xs ys))) := hid (l02MatMul_any (sp := none) (sq := none) (wr.heap.size + 1 + 1) 0 (wr.heap.size + 1 + 1 + 1) 0 ra cca ccb qa qb Na ka Nb kb ua ub xs ys W0 (b7.cell 0 rfl) (b7.cell 1 rfl) (b7.cell 2 rfl) (b8.cell 1 rfl) (b8.cell 2 rfl) la hNa lb (by rw [hNb, hrc]) (by omega) (by omega) (by omega) (p1.ext E0) p2 (g1.ext E0) g2)
      have HV : Hid ((opV 6 0 (tn ra cca xs) (tn rb ccb ys)) = ((ra : Int), (ccb : Int), mmX ra cca ccb xs ys, ())) := hid (by simp only [opV]; simp only [tn, Int.toNat_natCast]; (try rfl))
      rw [HV.out] at HVi
      have HX0 : (mmX ra cca ccb xs ys).length = ra * ccb := ntab_len _ _
      obtain ⟨M, hM⟩ : ∃ M, M = ra * ccb := ⟨_, rfl⟩
      rw [← hM] at HX0
      have HX := hid HX0
      clear HX0
      generalize mmX ra cca ccb xs ys = res at *
      have HCA := hid hca
      have hqs := Hq.out (by omega)
      have HCB := hid hcb
      clear hcb hNb g1 g2 g3 g4 lb
      clear ht hpt hca hz hNa p1 p2 p3 p4 la HV hM h1 hrc
      go_wp2_with (first | ((with_reducible show wpList _ _ _ (Oper.mk _ (Op.indexAddr _ _ _) _ _ _ _ :: Oper.mk _ (Op.load _ _) _ _ _ _ :: _) _ _); refine wl_idxloadE (s := shOp) (j := i) rfl rfl rfl rfl (fun _ => rfl) rfl rfl rfl hcs hsz hcnt hlt hps Hoc.out ?_; simp only [ofCs, Sh.agg, if_true]) | ((with_reducible show wpList _ _ _ (Oper.mk _ (Op.indexAddr _ _ _) _ _ _ _ :: Oper.mk _ (Op.load _ _) _ _ _ _ :: _) _ _); refine wl_idxloadE (s := shTensor) (j := a) rfl rfl rfl rfl (fun _ => rfl) rfl rfl rfl ((KT.out.ext (by (repeat (first | with_reducible exact Ext.refl _ | with_reducible assumption | ((with_reducible refine Ext.setCell ?_ ?_ _); rotate_left; focus (first | (simp; done) | (simp; omega))) | (with_reducible refine Ext.trans ?_ (Ext.alloc _ _)) | (with_reducible refine Ext.trans ?_ (Ext.drew _)) | (with_reducible refine Ext.trans ?_ (by with_reducible assumption)))))).cs) KT.out.size KT.out.cnt ha hqs HCA.out ?_; simp only [ofCs, Sh.agg, if_true]) | ((with_reducible show wpList _ _ _ (Oper.mk _ (Op.indexAddr _ _ _) _ _ _ _ :: Oper.mk _ (Op.load _ _) _ _ _ _ :: _) _ _); refine wl_idxloadE (s := shTensor) (j := b) rfl rfl rfl rfl (fun _ => rfl) rfl rfl rfl ((KT.out.ext (by (repeat (first | with_reducible exact Ext.refl _ | with_reducible assumption | ((with_reducible refine Ext.setCell ?_ ?_ _); rotate_left; focus (first | (simp; done) | (simp; omega))) | (with_reducible refine Ext.trans ?_ (Ext.alloc _ _)) | (with_reducible refine Ext.trans ?_ (Ext.drew _)) | (with_reducible refine Ext.trans ?_ (by with_reducible assumption)))))).cs) KT.out.size KT.out.cnt hb hqs HCB.out ?_; simp only [ofCs, Sh.agg, if_true]) | fail)
      rw [← hW0]
      clear hW0
      refine (K.out).mono ?_
      rintro e w1 ⟨tq, tk, ws, rfl, own, hf3, e1⟩
      rw [HX.out] at own ⊢
      have b6x := b6.ext e1
      have hs1 := e1.size
      go_wp2_with (first | ((with_reducible show wpList _ _ _ (Oper.mk _ (Op.store _ _ _) _ _ _ _ :: _) _ _); refine wl_st3 (y0 := .int .i64 ra) (y1 := .int .i64 ccb) (y2 := .slice tq M tk) rfl rfl rfl rfl b6x rfl rfl rfl ?_; intro w2 d6 ch; have n0 := d6.cell 0 rfl; have n1 := d6.cell 1 rfl; have n2 := d6.cell 2 rfl; have e9 := (E0.trans e1).chg ch (fun k hk => by omega); have hs9 := e9.size; have G1 := hid (HG.out.ext e9); have hrow := G1.out.row; rw [HVLi.out] at hrow) | ((with_reducible show wpList _ _ _ (Oper.mk _ (Op.buildSlice _ _ _) _ _ _ _ :: Oper.mk _ (Op.call _) _ _ _ _ :: _) _ _); refine wl_app1b (u := .agg #[.int .i64 ra, .int .i64 ccb, .slice tq M tk]) rfl rfl rfl rfl rfl rfl rfl (fun _ => rfl) (fun _ => rfl) hrow (by unfold maxLen; omega) (by omega) (by omega) ?_; intro g9 c9 w9 own9 g9' hg9) | fail)
      have own' := own_base (own_chgB own ch (fun k hk => by omega)) (show wr.heap.size ≤ W0.heap.size by omega)
      obtain ⟨ho1, ho2, ho3⟩ := own_mk (r := ra) (c := ccb) HX.out own' hf3
      go_roundw
      case rel =>
       have hsn := HG.out.snoc e9 ho1 ho2 ho3 hle HVLi.out own9 g9' hg9
       exact ⟨i + 1, _, _, by omega, by go_num, by rw [HVi.out]; exact hsn, (he.trans e9).grown g9' (fun k hk => by have := own_le hrow k hk; omega)⟩
      case measure => simp [intOf]; omega
    | turn a ha h2 =>
      as_aux_lemma =>
      obtain ⟨zb, ct, rfl, hz, ht⟩ := mkOp_vals Hro.out
      obtain ⟨qt, ct', ut, rfl, hpt, _⟩ := ten_vals ht
      obtain ⟨ca, hca, hva⟩ := Hke.out a ha
      have hsa := Hsi.out a (by omega)
      obtain ⟨cb, hcb, hvb⟩ := Hke.out 0 (by omega)
      have hsb := Hsi.out 0 (by omega)
      rw [valT_mk (by decide)] at HVi
      generalize (valsT ops i).getD a t0 = va at hva HVi
      generalize (valsT ops i).getD 0 t0 = vb at hvb HVi
      generalize sh a = sa at *
      generalize sh 0 = sb at *
      obtain ⟨qa, ka, ua, xs, rfl, rfl, la, p1, p2, p3, p4⟩ := hva
      obtain ⟨qb, kb, ub, ys, rfl, rfl, lb, g1, g2, g3, g4⟩ := hvb
      obtain ⟨rb, ccb⟩ := sb
      obtain ⟨j1, j2, j3, j4⟩ := hsb
      obtain ⟨ra, cca⟩ := sa
      obtain ⟨i1, i2, i3, i4⟩ := hsa
      dsimp only at *
      obtain ⟨Na, hNa⟩ : ∃ N, N = ra * cca := ⟨_, rfl⟩
      have hNa2 : Na ≤ 256 := by rw [hNa]; exact Nat.mul_le_mul i2 i4
      rw [← hNa] at la p3 hca
      obtain ⟨Nb, hNb⟩ : ∃ N, N = rb * ccb := ⟨_, rfl⟩
      have hNb2 : Nb ≤ 256 := by rw [hNb]; exact Nat.mul_le_mul j2 j4
      rw [← hNb] at lb g3 hcb
      simp only [List.cons_append, List.nil_append, t0, List.length_nil] at Hoc
      obtain ⟨W0, hW0⟩ : ∃ W0, W0 = (((wr.alloc (.cells #[.int .i64 7, .int .i64 a, .int .i64 0, .float .f32 zb, .int .i64 0, .int .i64 0, .slice qt 0 ct'] 79)).alloc (.cells #[.int .i64 0, .int .i64 0, .slice none 0 0] 37)).alloc (.cells #[.int .i64 ra, .int .i64 cca, .slice qa Na ka] 37)).alloc (.cells #[.int .i64 rb, .int .i64 ccb, .slice qb Nb kb] 37) := ⟨_, rfl⟩
      obtain ⟨E0, s0, b5, b6, b7, b8⟩ := box4 hW0
      have K := hid (l02Turn_any (sp := none) (wr.heap.size + 1 + 1) 0 ra cca qa Na ka ua xs W0 (b7.cell 0 rfl) (b7.cell 1 rfl) (b7.cell 2 rfl) la hNa (by omega) (by omega) (p1.ext E0) p2)
      have HV : Hid ((opV 7 0 (tn ra cca xs) (tn rb ccb ys)) = ((cca : Int), (ra : Int), turnX ra cca xs, ())) := hid (by simp only [opV]; simp only [tn, Int.toNat_natCast]; (try rfl))
      rw [HV.out] at HVi
      have HX0 : (turnX ra cca xs).length = cca * ra := ntab_len _ _
      obtain ⟨M, hM⟩ : ∃ M, M = cca * ra := ⟨_, rfl⟩
      rw [← hM] at HX0
      have HX := hid HX0
      clear HX0
      generalize turnX ra cca xs = res at *
      have HCA := hid hca
      have hqs := Hq.out (by omega)
      have HCB := hid hcb
      clear hcb hNb g1 g2 g3 g4 lb
      clear ht hpt hca hz hNa p1 p2 p3 p4 la HV hM
      go_wp2_with (first | ((with_reducible show wpList _ _ _ (Oper.mk _ (Op.indexAddr _ _ _) _ _ _ _ :: Oper.mk _ (Op.load _ _) _ _ _ _ :: _) _ _); refine wl_idxloadE (s := shOp) (j := i) rfl rfl rfl rfl (fun _ => rfl) rfl rfl rfl hcs hsz hcnt hlt hps Hoc.out ?_; simp only [ofCs, Sh.agg, if_true]) | ((with_reducible show wpList _ _ _ (Oper.mk _ (Op.indexAddr _ _ _) _ _ _ _ :: Oper.mk _ (Op.load _ _) _ _ _ _ :: _) _ _); refine wl_idxloadE (s := shTensor) (j := a) rfl rfl rfl rfl (fun _ => rfl) rfl rfl rfl ((KT.out.ext (by (repeat (first | with_reducible exact Ext.refl _ | with_reducible assumption | ((with_reducible refine Ext.setCell ?_ ?_ _); rotate_left; focus (first | (simp; done) | (simp; omega))) | (with_reducible refine Ext.trans ?_ (Ext.alloc _ _)) | (with_reducible refine Ext.trans ?_ (Ext.drew _)) | (with_reducible refine Ext.trans ?_ (by with_reducible assumption)))))).cs) KT.out.size KT.out.cnt ha hqs HCA.out ?_; simp only [ofCs, Sh.agg, if_true]) | ((with_reducible show wpList _ _ _ (Oper.mk _ (Op.indexAddr _ _ _) _ _ _ _ :: Oper.mk _ (Op.load _ _) _ _ _ _ :: _) _ _); refine wl_idxloadE (s := shTensor) (j := 0) rfl rfl rfl rfl (fun _ => rfl) rfl rfl rfl ((KT.out.ext (by (repeat (first | with_reducible exact Ext.refl _ | with_reducible assumption | ((with_reducible refine Ext.setCell ?_ ?_ _); rotate_left; focus (first | (simp; done) | (simp; omega))) | (with_reducible refine Ext.trans ?_ (Ext.alloc _ _)) | (with_reducible refine Ext.trans ?_ (Ext.drew _)) | (with_reducible refine Ext.trans ?_ (by with_reducible assumption)))))).cs) KT.out.size KT.out.cnt (by omega) hqs HCB.out ?_; simp only [ofCs, Sh.agg, if_true]) | fail)
      rw [← hW0]
      clear hW0
      refine (K.out).mono ?_
      rintro e w1 ⟨tq, tk, ws, rfl, own, hf3, e1⟩
      rw [HX.out] at own ⊢
      have b6x := b6.ext e1
      have hs1 := e1.size
      go_wp2_with (first | ((with_reducible show wpList _ _ _ (Oper.mk _ (Op.store _ _ _) _ _ _ _ :: _) _ _); refine wl_st3 (y0 := .int .i64 cca) (y1 := .int .i64 ra) (y2 := .slice tq M tk) rfl rfl rfl rfl b6x rfl rfl rfl ?_; intro w2 d6 ch; have n0 := d6.cell 0 rfl; have n1 := d6.cell 1 rfl; have n2 := d6.cell 2 rfl; have e9 := (E0.trans e1).chg ch (fun k hk => by omega); have hs9 := e9.size; have G1 := hid (HG.out.ext e9); have hrow := G1.out.row; rw [HVLi.out] at hrow) | ((with_reducible show wpList _ _ _ (Oper.mk _ (Op.buildSlice _ _ _) _ _ _ _ :: Oper.mk _ (Op.call _) _ _ _ _ :: _) _ _); refine wl_app1b (u := .agg #[.int .i64 cca, .int .i64 ra, .slice tq M tk]) rfl rfl rfl rfl rfl rfl rfl (fun _ => rfl) (fun _ => rfl) hrow (by unfold maxLen; omega) (by omega) (by omega) ?_; intro g9 c9 w9 own9 g9' hg9) | fail)
      have own' := own_base (own_chgB own ch (fun k hk => by omega)) (show wr.heap.size ≤ W0.heap.size by omega)
      obtain ⟨ho1, ho2, ho3⟩ := own_mk (r := cca) (c := ra) HX.out own' hf3
      go_roundw
      case rel =>
       have hsn := HG.out.snoc e9 ho1 ho2 ho3 hle HVLi.out own9 g9' hg9
       exact ⟨i + 1, _, _, by omega, by go_num, by rw [HVi.out]; exact hsn, (he.trans e9).grown g9' (fun k hk => by have := own_le hrow k hk; omega)⟩
      case measure => simp [intOf]; omega
    | relu a ha h2 =>
      as_aux_lemma =>
      obtain ⟨zb, ct, rfl, hz, ht⟩ := mkOp_vals Hro.out
      obtain ⟨qt, ct', ut, rfl, hpt, _⟩ := ten_vals ht
      obtain ⟨ca, hca, hva⟩ := Hke.out a ha
      have hsa := Hsi.out a (by omega)
      obtain ⟨cb, hcb, hvb⟩ := Hke.out 0 (by omega)
      have hsb := Hsi.out 0 (by omega)
      rw [valT_mk (by decide)] at HVi
      generalize (valsT ops i).getD a t0 = va at hva HVi
      generalize (valsT ops i).getD 0 t0 = vb at hvb HVi
      generalize sh a = sa at *
      generalize sh 0 = sb at *
      obtain ⟨qa, ka, ua, xs, rfl, rfl, la, p1, p2, p3, p4⟩ := hva
      obtain ⟨qb, kb, ub, ys, rfl, rfl, lb, g1, g2, g3, g4⟩ := hvb
      obtain ⟨rb, ccb⟩ := sb
      obtain ⟨j1, j2, j3, j4⟩ := hsb
      obtain ⟨ra, cca⟩ := sa
      obtain ⟨i1, i2, i3, i4⟩ := hsa
      dsimp only at *
      obtain ⟨Na, hNa⟩ : ∃ N, N = ra * cca := ⟨_, rfl⟩
      have hNa2 : Na ≤ 256 := by rw [hNa]; exact Nat.mul_le_mul i2 i4
      rw [← hNa] at la p3 hca
      obtain ⟨Nb, hNb⟩ : ∃ N, N = rb * ccb := ⟨_, rfl⟩
      have hNb2 : Nb ≤ 256 := by rw [hNb]; exact Nat.mul_le_mul j2 j4
      rw [← hNb] at lb g3 hcb
      simp only [List.cons_append, List.nil_append, t0, List.length_nil] at Hoc
      obtain ⟨W0, hW0⟩ : ∃ W0, W0 = (((wr.alloc (.cells #[.int .i64 8, .int .i64 a, .int .i64 0, .float .f32 zb, .int .i64 0, .int .i64 0, .slice qt 0 ct'] 79)).alloc (.cells #[.int .i64 0, .int .i64 0, .slice none 0 0] 37)).alloc (.cells #[.int .i64 ra, .int .i64 cca, .slice qa Na ka] 37)).alloc (.cells #[.int .i64 rb, .int .i64 ccb, .slice qb Nb kb] 37) := ⟨_, rfl⟩
      obtain ⟨E0, s0, b5, b6, b7, b8⟩ := box4 hW0
      have K := hid (l02Relu_any (sp := none) (wr.heap.size + 1 + 1) 0 ra cca qa Na ka ua xs W0 (b7.cell 0 rfl) (b7.cell 1 rfl) (b7.cell 2 rfl) la (by omega) (p1.ext E0) p2)
      have HX : Hid ((rluX Na xs).length = Na) := ntab_len _ _
      have HV : Hid ((opV 8 0 (tn ra cca xs) (tn rb ccb ys)) = ((ra : Int), (cca : Int), rluX Na xs, ())) := hid (by simp only [opV]; simp only [tn, la]; (try rfl))
      rw [HV.out] at HVi
      generalize rluX Na xs = res at *
      have HCA := hid hca
      have hqs := Hq.out (by omega)
      have HCB := hid hcb
      clear hcb hNb g1 g2 g3 g4 lb
      clear ht hpt hca hz hNa p1 p2 p3 p4 la HV
      go_wp2_with (first | ((with_reducible show wpList _ _ _ (Oper.mk _ (Op.indexAddr _ _ _) _ _ _ _ :: Oper.mk _ (Op.load _ _) _ _ _ _ :: _) _ _); refine wl_idxloadE (s := shOp) (j := i) rfl rfl rfl rfl (fun _ => rfl) rfl rfl rfl hcs hsz hcnt hlt hps Hoc.out ?_; simp only [ofCs, Sh.agg, if_true]) | ((with_reducible show wpList _ _ _ (Oper.mk _ (Op.indexAddr _ _ _) _ _ _ _ :: Oper.mk _ (Op.load _ _) _ _ _ _ :: _) _ _); refine wl_idxloadE (s := shTensor) (j := a) rfl rfl rfl rfl (fun _ => rfl) rfl rfl rfl ((KT.out.ext (by (repeat (first | with_reducible exact Ext.refl _ | with_reducible assumption | ((with_reducible refine Ext.setCell ?_ ?_ _); rotate_left; focus (first | (simp; done) | (simp; omega))) | (with_reducible refine Ext.trans ?_ (Ext.alloc _ _)) | (with_reducible refine Ext.trans ?_ (Ext.drew _)) | (with_reducible refine Ext.trans ?_ (by with_reducible assumption)))))).cs) KT.out.size KT.out.cnt ha hqs HCA.out ?_; simp only [ofCs, Sh.agg, if_true]) | ((with_reducible show wpList _ _ _ (Oper.mk _ (Op.indexAddr _ _ _) _ _ _ _ :: Oper.mk _ (Op.load _ _) _ _ _ _ :: _) _ _); refine wl_idxloadE (s := shTensor) (j := 0) rfl rfl rfl rfl (fun _ => rfl) rfl rfl rfl ((KT.out.ext (by (repeat (first | with_reducible exact Ext.refl _ | with_reducible assumption | ((with_reducible refine Ext.setCell ?_ ?_ _); rotate_left; focus (first | (simp; done) | (simp; omega))) | (with_reducible refine Ext.trans ?_ (Ext.alloc _ _)) | (with_reducible refine Ext.trans ?_ (Ext.drew _)) | (with_reducible refine Ext.trans ?_ (by with_reducible assumption)))))).cs) KT.out.size KT.out.cnt (by omega) hqs HCB.out ?_; simp only [ofCs, Sh.agg, if_true]) | fail)
      rw [← hW0]
      clear hW0
      refine (K.out).mono ?_
      rintro e w1 ⟨tq, tk, ws, rfl, own, hf3, e1⟩
      rw [HX.out] at own ⊢
      have b6x := b6.ext e1
      have hs1 := e1.size
      go_wp2_with (first | ((with_reducible show wpList _ _ _ (Oper.mk _ (Op.store _ _ _) _ _ _ _ :: _) _ _); refine wl_st3 (y0 := .int .i64 ra) (y1 := .int .i64 cca) (y2 := .slice tq Na tk) rfl rfl rfl rfl b6x rfl rfl rfl ?_; intro w2 d6 ch; have n0 := d6.cell 0 rfl; have n1 := d6.cell 1 rfl; have n2 := d6.cell 2 rfl; have e9 := (E0.trans e1).chg ch (fun k hk => by omega); have hs9 := e9.size; have G1 := hid (HG.out.ext e9); have hrow := G1.out.row; rw [HVLi.out] at hrow) | ((with_reducible show wpList _ _ _ (Oper.mk _ (Op.buildSlice _ _ _) _ _ _ _ :: Oper.mk _ (Op.call _) _ _ _ _ :: _) _ _); refine wl_app1b (u := .agg #[.int .i64 ra, .int .i64 cca, .slice tq Na tk]) rfl rfl rfl rfl rfl rfl rfl (fun _ => rfl) (fun _ => rfl) hrow (by unfold maxLen; omega) (by omega) (by omega) ?_; intro g9 c9 w9 own9 g9' hg9) | fail)
      have own' := own_base (own_chgB own ch (fun k hk => by omega)) (show wr.heap.size ≤ W0.heap.size by omega)
      obtain ⟨ho1, ho2, ho3⟩ := own_mk (r := ra) (c := cca) HX.out own' hf3
      go_roundw
      case rel =>
       have hsn := HG.out.snoc e9 ho1 ho2 ho3 hle HVLi.out own9 g9' hg9
       exact ⟨i + 1, _, _, by omega, by go_num, by rw [HVi.out]; exact hsn, (he.trans e9).grown g9' (fun k hk => by have := own_le hrow k hk; omega)⟩
      case measure => simp [intOf]; omega
    | sqr a ha h2 =>
      as_aux_lemma =>
      obtain ⟨zb, ct, rfl, hz, ht⟩ := mkOp_vals Hro.out
      obtain ⟨qt, ct', ut, rfl, hpt, _⟩ := ten_vals ht
      obtain ⟨ca, hca, hva⟩ := Hke.out a ha
      have hsa := Hsi.out a (by omega)
      obtain ⟨cb, hcb, hvb⟩ := Hke.out 0 (by omega)
      have hsb := Hsi.out 0 (by omega)
      rw [valT_mk (by decide)] at HVi
      generalize (valsT ops i).getD a t0 = va at hva HVi
      generalize (valsT ops i).getD 0 t0 = vb at hvb HVi
      generalize sh a = sa at *
      generalize sh 0 = sb at *
      obtain ⟨qa, ka, ua, xs, rfl, rfl, la, p1, p2, p3, p4⟩ := hva
      obtain ⟨qb, kb, ub, ys, rfl, rfl, lb, g1, g2, g3, g4⟩ := hvb
      obtain ⟨rb, ccb⟩ := sb
      obtain ⟨j1, j2, j3, j4⟩ := hsb
      obtain ⟨ra, cca⟩ := sa
      obtain ⟨i1, i2, i3, i4⟩ := hsa
      dsimp only at *
      obtain ⟨Na, hNa⟩ : ∃ N, N = ra * cca := ⟨_, rfl⟩
      have hNa2 : Na ≤ 256 := by rw [hNa]; exact Nat.mul_le_mul i2 i4
      rw [← hNa] at la p3 hca
      obtain ⟨Nb, hNb⟩ : ∃ N, N = rb * ccb := ⟨_, rfl⟩
      have hNb2 : Nb ≤ 256 := by rw [hNb]; exact Nat.mul_le_mul j2 j4
      rw [← hNb] at lb g3 hcb
      simp only [List.cons_append, List.nil_append, t0, List.length_nil] at Hoc
      obtain ⟨W0, hW0⟩ : ∃ W0, W0 = (((wr.alloc (.cells #[.int .i64 9, .int .i64 a, .int .i64 0, .float .f32 zb, .int .i64 0, .int .i64 0, .slice qt 0 ct'] 79)).alloc (.cells #[.int .i64 0, .int .i64 0, .slice none 0 0] 37)).alloc (.cells #[.int .i64 ra, .int .i64 cca, .slice qa Na ka] 37)).alloc (.cells #[.int .i64 rb, .int .i64 ccb, .slice qb Nb kb] 37) := ⟨_, rfl⟩
      obtain ⟨E0, s0, b5, b6, b7, b8⟩ := box4 hW0
      have K := hid (l02Mul_any (sp := none) (sq := none) (wr.heap.size + 1 + 1) 0 ra cca qa Na ka ua xs (wr.heap.size + 1 + 1) 0 qa Na ka ua xs W0 (b7.cell 0 rfl) (b7.cell 1 rfl) (b7.cell 2 rfl) la (by omega) (p1.ext E0) p2 (b7.cell 2 rfl) la (Nat.le_refl _) (by omega) (p1.ext E0) p2)
      have HX : Hid ((mulX Na xs xs).length = Na) := ntab_len _ _
      have HV : Hid ((opV 9 0 (tn ra cca xs) (tn rb ccb ys)) = ((ra : Int), (cca : Int), mulX Na xs xs, ())) := hid (by simp only [opV]; simp only [tn, la]; (try rfl))
      rw [HV.out] at HVi
      generalize mulX Na xs xs = res at *
      have HCA := hid hca
      have hqs := Hq.out (by omega)
      have HCB := hid hcb
      clear hcb hNb g1 g2 g3 g4 lb
      clear ht hpt hca hz hNa p1 p2 p3 p4 la HV
      go_wp2_with (first | ((with_reducible show wpList _ _ _ (Oper.mk _ (Op.indexAddr _ _ _) _ _ _ _ :: Oper.mk _ (Op.load _ _) _ _ _ _ :: _) _ _); refine wl_idxloadE (s := shOp) (j := i) rfl rfl rfl rfl (fun _ => rfl) rfl rfl rfl hcs hsz hcnt hlt hps Hoc.out ?_; simp only [ofCs, Sh.agg, if_true]) | ((with_reducible show wpList _ _ _ (Oper.mk _ (Op.indexAddr _ _ _) _ _ _ _ :: Oper.mk _ (Op.load _ _) _ _ _ _ :: _) _ _); refine wl_idxloadE (s := shTensor) (j := a) rfl rfl rfl rfl (fun _ => rfl) rfl rfl rfl ((KT.out.ext (by (repeat (first | with_reducible exact Ext.refl _ | with_reducible assumption | ((with_reducible refine Ext.setCell ?_ ?_ _); rotate_left; focus (first | (simp; done) | (simp; omega))) | (with_reducible refine Ext.trans ?_ (Ext.alloc _ _)) | (with_reducible refine Ext.trans ?_ (Ext.drew _)) | (with_reducible refine Ext.trans ?_ (by with_reducible assumption)))))).cs) KT.out.size KT.out.cnt ha hqs HCA.out ?_; simp only [ofCs, Sh.agg, if_true]) | ((with_reducible show wpList _ _ _ (Oper.mk _ (Op.indexAddr _ _ _) _ _ _ _ :: Oper.mk _ (Op.load _ _) _ _ _ _ :: _) _ _); refine wl_idxloadE (s := shTensor) (j := 0) rfl rfl rfl rfl (fun _ => rfl) rfl rfl rfl ((KT.out.ext (by (repeat (first | with_reducible exact Ext.refl _ | with_reducible assumption | ((with_reducible refine Ext.setCell ?_ ?_ _); rotate_left; focus (first | (simp; done) | (simp; omega))) | (with_reducible refine Ext.trans ?_ (Ext.alloc _ _)) | (with_reducible refine Ext.trans ?_ (Ext.drew _)) | (with_reducible refine Ext.trans ?_ (by with_reducible assumption)))))).cs) KT.out.size KT.out.cnt (by omega) hqs HCB.out ?_; simp only [ofCs, Sh.agg, if_true]) | fail)
      rw [← hW0]
      clear hW0
      refine (K.out).mono ?_
      rintro e w1 ⟨tq, tk, ws, rfl, own, hf3, e1⟩
      rw [HX.out] at own ⊢
      have b6x := b6.ext e1
      have hs1 := e1.size
      go_wp2_with (first | ((with_reducible show wpList _ _ _ (Oper.mk _ (Op.store _ _ _) _ _ _ _ :: _) _ _); refine wl_st3 (y0 := .int .i64 ra) (y1 := .int .i64 cca) (y2 := .slice tq Na tk) rfl rfl rfl rfl b6x rfl rfl rfl ?_; intro w2 d6 ch; have n0 := d6.cell 0 rfl; have n1 := d6.cell 1 rfl; have n2 := d6.cell 2 rfl; have e9 := (E0.trans e1).chg ch (fun k hk => by omega); have hs9 := e9.size; have G1 := hid (HG.out.ext e9); have hrow := G1.out.row; rw [HVLi.out] at hrow) | ((with_reducible show wpList _ _ _ (Oper.mk _ (Op.buildSlice _ _ _) _ _ _ _ :: Oper.mk _ (Op.call _) _ _ _ _ :: _) _ _); refine wl_app1b (u := .agg #[.int .i64 ra, .int .i64 cca, .slice tq Na tk]) rfl rfl rfl rfl rfl rfl rfl (fun _ => rfl) (fun _ => rfl) hrow (by unfold maxLen; omega) (by omega) (by omega) ?_; intro g9 c9 w9 own9 g9' hg9) | fail)
      have own' := own_base (own_chgB own ch (fun k hk => by omega)) (show wr.heap.size ≤ W0.heap.size by omega)
      obtain ⟨ho1, ho2, ho3⟩ := own_mk (r := ra) (c := cca) HX.out own' hf3
      go_roundw
      case rel =>
       have hsn := HG.out.snoc e9 ho1 ho2 ho3 hle HVLi.out own9 g9' hg9
       exact ⟨i + 1, _, _, by omega, by go_num, by rw [HVi.out]; exact hsn, (he.trans e9).grown g9' (fun k hk => by have := own_le hrow k hk; omega)⟩
      case measure => simp [intOf]; omega
    | sum a ha h2 =>
      as_aux_lemma =>
      obtain ⟨zb, ct, rfl, hz, ht⟩ := mkOp_vals Hro.out
      obtain ⟨qt, ct', ut, rfl, hpt, _⟩ := ten_vals ht
      obtain ⟨ca, hca, hva⟩ := Hke.out a ha
      have hsa := Hsi.out a (by omega)
      obtain ⟨cb, hcb, hvb⟩ := Hke.out 0 (by omega)
      have hsb := Hsi.out 0 (by omega)
      rw [valT_mk (by decide)] at HVi
      generalize (valsT ops i).getD a t0 = va at hva HVi
      generalize (valsT ops i).getD 0 t0 = vb at hvb HVi
      generalize sh a = sa at *
      generalize sh 0 = sb at *
      obtain ⟨qa, ka, ua, xs, rfl, rfl, la, p1, p2, p3, p4⟩ := hva
      obtain ⟨qb, kb, ub, ys, rfl, rfl, lb, g1, g2, g3, g4⟩ := hvb
      obtain ⟨rb, ccb⟩ := sb
      obtain ⟨j1, j2, j3, j4⟩ := hsb
      obtain ⟨ra, cca⟩ := sa
      obtain ⟨i1, i2, i3, i4⟩ := hsa
      dsimp only at *
      obtain ⟨Na, hNa⟩ : ∃ N, N = ra * cca := ⟨_, rfl⟩
      have hNa2 : Na ≤ 256 := by rw [hNa]; exact Nat.mul_le_mul i2 i4
      rw [← hNa] at la p3 hca
      obtain ⟨Nb, hNb⟩ : ∃ N, N = rb * ccb := ⟨_, rfl⟩
      have hNb2 : Nb ≤ 256 := by rw [hNb]; exact Nat.mul_le_mul j2 j4
      rw [← hNb] at lb g3 hcb
      simp only [List.cons_append, List.nil_append, t0, List.length_nil] at Hoc
      obtain ⟨W0, hW0⟩ : ∃ W0, W0 = (((wr.alloc (.cells #[.int .i64 10, .int .i64 a, .int .i64 0, .float .f32 zb, .int .i64 0, .int .i64 0, .slice qt 0 ct'] 79)).alloc (.cells #[.int .i64 0, .int .i64 0, .slice none 0 0] 37)).alloc (.cells #[.int .i64 ra, .int .i64 cca, .slice qa Na ka] 37)).alloc (.cells #[.int .i64 rb, .int .i64 ccb, .slice qb Nb kb] 37) := ⟨_, rfl⟩
      obtain ⟨E0, s0, b5, b6, b7, b8⟩ := box4 hW0
      have K := hid (l01Sum_any qa Na ka ua xs W0 la (by unfold maxLen; omega) (p1.ext E0) p2)
      have HV : Hid ((opV 10 0 (tn ra cca xs) (tn rb ccb ys)) = ((1 : Int), (1 : Int), [sumG (fun j => (xs : List Nat).getD j 0) Na], ())) := hid (by simp only [opV]; simp only [tn, la]; (try rfl))
      rw [HV.out] at HVi
      generalize sumG (fun j => (xs : List Nat).getD j 0) Na = sm at *
      have HCA := hid hca
      have hqs := Hq.out (by omega)
      have HCB := hid hcb
      clear hcb hNb g1 g2 g3 g4 lb
      clear ht hpt hca hz hNa p1 p2 p3 p4 la HV
      go_wp2_with (first | ((with_reducible show wpList _ _ _ (Oper.mk _ (Op.indexAddr _ _ _) _ _ _ _ :: Oper.mk _ (Op.load _ _) _ _ _ _ :: _) _ _); refine wl_idxloadE (s := shOp) (j := i) rfl rfl rfl rfl (fun _ => rfl) rfl rfl rfl hcs hsz hcnt hlt hps Hoc.out ?_; simp only [ofCs, Sh.agg, if_true]) | ((with_reducible show wpList _ _ _ (Oper.mk _ (Op.indexAddr _ _ _) _ _ _ _ :: Oper.mk _ (Op.load _ _) _ _ _ _ :: _) _ _); refine wl_idxloadE (s := shTensor) (j := a) rfl rfl rfl rfl (fun _ => rfl) rfl rfl rfl ((KT.out.ext (by (repeat (first | with_reducible exact Ext.refl _ | with_reducible assumption | ((with_reducible refine Ext.setCell ?_ ?_ _); rotate_left; focus (first | (simp; done) | (simp; omega))) | (with_reducible refine Ext.trans ?_ (Ext.alloc _ _)) | (with_reducible refine Ext.trans ?_ (Ext.drew _)) | (with_reducible refine Ext.trans ?_ (by with_reducible assumption)))))).cs) KT.out.size KT.out.cnt ha hqs HCA.out ?_; simp only [ofCs, Sh.agg, if_true]) | ((with_reducible show wpList _ _ _ (Oper.mk _ (Op.indexAddr _ _ _) _ _ _ _ :: Oper.mk _ (Op.load _ _) _ _ _ _ :: _) _ _); refine wl_idxloadE (s := shTensor) (j := 0) rfl rfl rfl rfl (fun _ => rfl) rfl rfl rfl ((KT.out.ext (by (repeat (first | with_reducible exact Ext.refl _ | with_reducible assumption | ((with_reducible refine Ext.setCell ?_ ?_ _); rotate_left; focus (first | (simp; done) | (simp; omega))) | (with_reducible refine Ext.trans ?_ (Ext.alloc _ _)) | (with_reducible refine Ext.trans ?_ (Ext.drew _)) | (with_reducible refine Ext.trans ?_ (by with_reducible assumption)))))).cs) KT.out.size KT.out.cnt (by omega) hqs HCB.out ?_; simp only [ofCs, Sh.agg, if_true]) | fail)
      rw [← hW0]
      clear hW0
      refine (K.out).mono ?_
      rintro e w5 ⟨sb5, rfl, hsb5, e5⟩
      have HS5 := hid hsb5
      have b6 := b6.ext e5
      have E0 := E0.trans e5
      have s0 : wr.heap.size + 4 ≤ w5.heap.size := by have := e5.size; omega
      clear hsb5
      go_wp2_with fail
      have hfil := l02Filled_any 1 1 sb5 sm w5 HS5.out (by omega)
      have HF := hid hfil
      clear hfil
      refine (HF.out).mono ?_
      rintro e w1 ⟨tq, tk, ws, rfl, own, hf3, e1⟩
      have HX : Hid ((List.replicate (1 * 1) sm).length = 1) := hid rfl
      rw [HX.out] at own ⊢
      obtain ⟨W0, hW0⟩ : ∃ W, W = w5 := ⟨_, rfl⟩
      rw [← hW0] at own
      have b6x := b6.ext e1
      have hs1 := e1.size
      subst hW0
      go_wp2_with (first | ((with_reducible show wpList _ _ _ (Oper.mk _ (Op.store _ _ _) _ _ _ _ :: _) _ _); refine wl_st3 (y0 := .int .i64 1) (y1 := .int .i64 1) (y2 := .slice tq 1 tk) rfl rfl rfl rfl b6x rfl rfl rfl ?_; intro w2 d6 ch; have n0 := d6.cell 0 rfl; have n1 := d6.cell 1 rfl; have n2 := d6.cell 2 rfl; have e9 := (E0.trans e1).chg ch (fun k hk => by omega); have hs9 := e9.size; have G1 := hid (HG.out.ext e9); have hrow := G1.out.row; rw [HVLi.out] at hrow) | ((with_reducible show wpList _ _ _ (Oper.mk _ (Op.buildSlice _ _ _) _ _ _ _ :: Oper.mk _ (Op.call _) _ _ _ _ :: _) _ _); refine wl_app1b (u := .agg #[.int .i64 1, .int .i64 1, .slice tq 1 tk]) rfl rfl rfl rfl rfl rfl rfl (fun _ => rfl) (fun _ => rfl) hrow (by unfold maxLen; omega) (by omega) (by omega) ?_; intro g9 c9 w9 own9 g9' hg9) | fail)
      have own' := own_base (own_chgB own ch (fun k hk => by omega)) (show wr.heap.size ≤ W0.heap.size by omega)
      obtain ⟨ho1, ho2, ho3⟩ := own_mk (r := 1) (c := 1) HX.out own' hf3
      go_roundw
      case rel =>
       have hsn := HG.out.snoc e9 ho1 ho2 ho3 hle HVLi.out own9 g9' hg9
       exact ⟨i + 1, _, _, by omega, by go_num, by rw [HVi.out]; exact hsn, (he.trans e9).grown g9' (fun k hk => by have := own_le hrow k hk; omega)⟩
      case measure => simp [intOf]; omega
  · obtain rfl : i = n := by omega
    go_wp2
    go_ret
    exact ⟨_, rfl, ⟨_, _, hG⟩, he⟩
end Go.Proofs.YtlimabbeaimdgaaGreat
