/- CompileModel of the program. -/
import Derived.Test.YtlimabbeaimdgaaCompC
import Derived.Test.YtlimabbeaimdgaaKf
import Derived.Test.YtlimabbeaimdgaaHPlan
namespace Go.Proofs.Ytlimabbeaimdgaa.lCompileModel
set_option linter.unusedSimpArgs false
set_option linter.unusedVariables false
open Go.RowKit

def res (d : shModel.T) : shPlan.T × Bool := if modB d.1 = true then ((cmpF d.1 d.1.length, ()), true) else (([], ()), false)
theorem res_no {d : shModel.T} (h : modB d.1 = false) : res d = (([], ()), false) := by unfold res; rw [if_neg (by rw [h]; simp)]
theorem own_pla {w : World} {q : Option Addr} {n k : Nat} {P : List shPlanStep.T} {bs : List Nat} (h : Own w (.sl shPlanStep) [.slice q n k] P bs) : Own w shPlan [.slice q n k] (P, ()) bs := ⟨[.slice q n k], [], bs, [], rfl, h, ⟨rfl, rfl⟩, by simp⟩
theorem out_no {w : World} {t : TypeId} {en : Ending} {w' : World} (h : en = .returned (.tuple #[.agg #[.slice none 0 0], .bool false])) (hx : Ext w w') : OutT w t shPlan (([], ()), false) en w' :=
  ⟨[.slice none 0 0], [], h, own_pla own_nil, by simp, by simp, by simp, hx⟩
set_option maxRecDepth 100000 in
set_option maxHeartbeats 4000000 in
theorem impl_ok (cs0 : List Value) (D0 : shModel.T) (w : World) (h0 : Rep w shModel cs0 D0) (f0 : Fit shModel D0) : Calls Try.prog 15 #[ofCs shModel cs0] w (OutT w 28 shPlan (res D0)) := by
  obtain ⟨L0, u0⟩ := D0
  obtain ⟨c0, c1, rfl, k0, rfl⟩ := h0
  obtain ⟨p, c, rfl, _⟩ := rep_val k0
  obtain ⟨p', c', css, he0, L⟩ := lays_of k0 f0.1
  cases he0
  simp only [ofCs, Sh.agg, if_true, List.append_nil]
  obtain ⟨W0, hW0⟩ : ∃ W0, W0 = (w.alloc (.cells #[.slice p L0.length c] 33)).alloc (.cells #[.slice none 0 0] 28) := ⟨_, rfl⟩
  obtain ⟨E0, s0, b0, b1⟩ := box2 hW0
  have b0 : HB W0 w.heap.size #[.slice p L0.length c] 33 := b0
  have b1 : HB W0 (w.heap.size + 1) #[.slice none 0 0] 28 := b1
  have A := hid (fun W (h : Ext W0 W) => ValidModel_any p L0.length c L0 css W L.len L.le (L.cs.ext (E0.trans h)) (L.all.imp fun _ _ => Rep.ext (E0.trans h)) L.size L.cnt)
  clear k0
  cases hb0 : modB L0
  · rw [res_no hb0]
    rw [hb0] at A
    clear L f0 b0 hb0
    generalize L0.length = n at *
    go_enter Try.func15, Try.ntmps15
    go_wp2_with fail
    rw [← hW0]
    clear hW0
    refine (A.out _ (Ext.refl _)).mono ?_
    rintro e w1 ⟨rfl, e1⟩
    have f1 := b1.ext e1
    have n1 := f1.cell 0 rfl
    have m1 := f1.froz 0
    go_wp2
    refine bodyPost_ret (v := .tuple #[.agg #[.slice none 0 0], .bool false]) (by simp [results, Try.results15, go_sem, n1, m1]) rfl ?_
    exact out_no rfl (by have := E0.trans e1; (repeat (first | with_reducible exact Ext.refl _ | with_reducible assumption | ((with_reducible refine Ext.setCell ?_ ?_ _); rotate_left; focus (first | (simp; done) | (simp; omega))) | (with_reducible refine Ext.trans ?_ (Ext.alloc _ _)) | (with_reducible refine Ext.trans ?_ (Ext.drew _)) | (with_reducible refine Ext.trans ?_ (by with_reducible assumption)))))
  rw [hb0] at A
  have hM := modOk hb0
  have HS := hid (small_of hM).2
  have hn12 : L0.length ≤ 12 := (small_of hM).1
  rw [show res (L0, u0) = ((cmpF L0 L0.length, ()), true) from by unfold res; rw [if_pos hb0]]
  have HL := hid (rfl : L0.length = L0.length)
  generalize hn : L0.length = n at HL b0 A hW0 hn12 L ⊢
  have Hn := hid hn
  clear hn f0 hb0 hM
  go_enter Try.func15, Try.ntmps15
  go_wp2_with fail
  rw [← hW0]
  clear hW0
  refine (A.out _ (Ext.refl _)).mono ?_
  rintro e w1 ⟨rfl, e1⟩
  have x0 := (b0.ext (e1.trans (Ext.alloc w1 (.cells #[.slice none 0 0] 28)))).cell 0 rfl
  have hst : Cst w1 (w1.alloc (.cells #[.slice none 0 0] 28)) w1.heap.size 0 0 none [] [] [] := ⟨HB.new w1 _ _, rfl, GrowOwn.empty ⟨rfl, .inl ⟨rfl, rfl⟩⟩, fun b hb => by simp at hb, Ext.alloc _ _, Nat.le_refl _⟩
  have EW := E0.trans e1
  have l1 := L.cs.ext EW; have l2 := L.all.imp fun _ _ => Rep.ext EW; have l3 := L.size; have l5 := hid L.cnt
  clear A L
  go_wp2
  generalize hWb : w1.alloc (.cells #[.slice none 0 0] 28) = wb at *
  clear hWb x0
  go_loopw [18] (fun iv wr => ∃ (i m c8 : Nat) (q : Option Addr) (cs : List (List Value)) (bss : List (List Nat)), i ≤ n ∧ iv = .int .i64 i ∧ Cst w1 wr w1.heap.size m c8 q (cmpF L0 i) cs bss) (fun iv _ => n - (intOf iv).toNat)
  case atStart => exact ⟨0, 0, 0, none, [], [], by omega, rfl, hst⟩
  case round =>
    clear hst
    obtain ⟨i, m, c8, q, cs, bss, hi, rfl, hc⟩ := hrel
    by_cases hlt : i < n
    · have hil : i < L0.length := by rw [Hn.out]; exact hlt
      have he := hc.ext
      obtain ⟨ci, hci, ri⟩ := l2.get i L0[i] (by simp)
      have hs1 : p.isSome = true := l1.some_of l3 (by decide) (show 0 < css.length by rw [l5.out]; omega)
      have hp := l1.ext he
      have one := ri.one
      obtain ⟨hw1, hw2⟩ := HS.out L0[i] (by simp)
      obtain ⟨pw, cw, pb, cb, uw, ub, rfl, ⟨x1, x2, x3⟩, ⟨y1, y2, y3⟩⟩ := lay_full ri
      have Hsucc := hid (cmpF_succ hil)
      have Hle := cmpF_len L0 i (by omega)
      have Hrd := relD_cmp L0 i (by omega)
      generalize L0[i] = d at *
      generalize cmpF L0 i = P at *
      have hm12 : m ≤ 12 := by have := hc.len; omega
      have C1 := hid (fun W (h : Ext wr W) => cloneF_any pw _ cw uw _ W rfl (by omega) x3 (x1.ext (he.trans h)) x2)
      have C2 := hid (fun W (h : Ext wr W) => cloneF_any pb _ cb ub _ W rfl (by omega) y3 (y1.ext (he.trans h)) y2)
      have CO0 := hid (fun W (h : Ext wr W) => areOnes_any pw _ cw uw _ W rfl (by unfold maxLen; omega) (x1.ext (he.trans h)) x2)
      obtain ⟨d1, d2, d3, ws, bs, du⟩ := d
      dsimp only at hci one C1 C2 CO0 hw1 hw2 x1 x2 x3 y1 y2 y3 Hsucc ⊢
      generalize hlw0 : ws.length = lw at *
      generalize hlb0 : bs.length = lb at *
      have Hlw := hid hlw0
      have Hlb := hid hlb0
      clear hlw0 hlb0 x1 x2 x3 y1 y2 y3 ri hw2 hil
      obtain ⟨W1, hW1⟩ : ∃ W1, W1 = (wr.alloc (.cells #[.int .i64 d1, .int .i64 d2, .int .i64 d3, .slice pw lw cw, .slice pb lb cb] 65)).alloc (.cells #[.int .i64 (-1), .int .i64 0, .int .i64 0, .slice none 0 0, .slice none 0 0, .slice none 0 0, .bool false] 117) := ⟨_, rfl⟩
      obtain ⟨E1, _, b5, b6⟩ := box2 hW1
      have b5 : HB W1 wr.heap.size #[.int .i64 d1, .int .i64 d2, .int .i64 d3, .slice pw lw cw, .slice pb lb cb] 65 := b5
      have b6 : HB W1 (wr.heap.size + 1) #[.int .i64 (-1), .int .i64 0, .int .i64 0, .slice none 0 0, .slice none 0 0, .slice none 0 0, .bool false] 117 := b6
      have k0 := HB.cell b5 0 rfl; have k1 := HB.cell b5 1 rfl; have k2 := HB.cell b5 2 rfl; have k3 := HB.cell b5 3 rfl; have k4 := HB.cell b5 4 rfl; have f0 := HB.cell (hc.out.ext E1) 0 rfl
      by_cases hd2 : d1 = 2
      · subst hd2
        by_cases hm0 : m = 0
        · have hP : P = [] := List.eq_nil_of_length_eq_zero (by have := hc.len; omega)
          have hRel : reluB (lastP P) = false := by rw [hP]; rfl
          have hBare : bareB (lastP P) = false := by rw [hP]; rfl
          have hdm : decide ((0 : Int) < (m : Int)) = false := by simp; omega
          have hm1 : m < 1 := by omega
          clear hP Hrd hm0
          have z0 := HB.cell b6 0 rfl; have z5 := HB.cell b6 5 rfl; have z6 := HB.cell b6 6 rfl
          cases hon : onesB ws
          · have CO := hid (fun W h => by have := CO0.out W h; rw [hon] at this; exact this)
            have Hc := hid (cmp_push2 (P := P) (d := (2, d2, d3, ws, bs, du)) rfl hon hBare)
            clear hon CO0
            subst hW1
            go_wp2_with ((with_reducible show wpList _ _ _ (Oper.mk _ (Op.indexAddr _ _ _) _ _ _ _ :: Oper.mk _ (Op.load _ _) _ _ _ _ :: _) _ _); refine wl_idxloadE (s := shLayer) (j := i) rfl rfl rfl rfl (fun _ => rfl) rfl rfl rfl hp l3 l5.out hlt hs1 hci ?_; simp only [ofCs, Sh.agg, if_true])
            refine (CO.out _ E1).mono ?_
            rintro e w2 ⟨rfl, e2⟩
            have k0 := HB.cell (b5.ext e2) 0 rfl; have k1 := HB.cell (b5.ext e2) 1 rfl; have k2 := HB.cell (b5.ext e2) 2 rfl; have k3 := HB.cell (b5.ext e2) 3 rfl; have k4 := HB.cell (b5.ext e2) 4 rfl; have f0 := HB.cell (hc.out.ext (E1.trans e2)) 0 rfl
            have z0 := HB.cell (b6.ext e2) 0 rfl; have z5 := HB.cell (b6.ext e2) 5 rfl; have z6 := HB.cell (b6.ext e2) 6 rfl
            go_wp2
            have eD := (E1.trans e2).trans (Ext.drew _)
            have t5 := HB.ext (b5.ext e2) (Ext.drew _)
            have y0 := HB.cell (hc.out.ext eD) 0 rfl; have y1 := t5.cell 0 rfl; have y2 := t5.cell 1 rfl; have y3 := t5.cell 2 rfl; have y4 := t5.cell 3 rfl; have y5 := t5.cell 4 rfl
            obtain ⟨F, hF⟩ : ∃ F : Option Tmp → World → World → Value → Prop, F = fun d w0 W u => match d with | some 64 => ∃ q k, u = .slice q lw k ∧ IsOwnY [49] w0.heap.size (.sl .flt) W [.slice q lw k] ws | _ => ∃ q k, u = .slice q lb k ∧ IsOwnY [49] w0.heap.size (.sl .flt) W [.slice q lb k] bs := ⟨_, rfl⟩
            have HF := hid hF
            clear hF
            refine wp_region_yt 16 (F := F) (by kernel_rfl) (by kernel_rfl) (by kernel_rfl) (by kernel_rfl) (by kernel_rfl) ?_
            intro wf hwf
            simp only [List.take_succ_cons, List.take_zero, List.drop_succ_cons, List.drop_zero]
            repeat (first
              | (refine x_skip rfl ?_; simp only [Act.put, ev_tmp, List.setIfInBounds_toArray, List.set_cons_succ, List.set_cons_zero, List.getD_cons_succ, List.getD_cons_zero])
              | (refine x_mv rfl rfl rfl ?_; simp only [Act.put, ev_tmp, List.setIfInBounds_toArray, List.set_cons_succ, List.set_cons_zero, List.getD_cons_succ, List.getD_cons_zero])
              | (refine x_as rfl rfl rfl ?_; simp only [Act.put, ev_tmp, List.setIfInBounds_toArray, List.set_cons_succ, List.set_cons_zero, List.getD_cons_succ, List.getD_cons_zero])
              | ((with_reducible show wpX _ _ _ _ _ _ (Oper.mk _ (Op.call _) _ _ _ _ :: _) _); refine y_callK (f := 72) (args := #[.slice pb lb cb]) rfl rfl Try.func72 rfl (by kernel_rfl) ?_ ?_ ?_; (focus (simp [Act.eval]; done)); (focus (intro w1 hw1 hK; exact (by rw [HF.out]; exact (C2.out w1 (eD.trans hw1)).mono fun e w3 h => by obtain ⟨q, k, bs', g1, g2, g3, g4, g5, g6⟩ := retFl_thing3 Hlb.out h; exact ⟨_, g1, g5, q, k, rfl, bs', g2, g3, g4, g6⟩))); rintro u wa wb e0 hK e3 e4 hu; simp only [HF.out] at hu; obtain ⟨qb, kb, rfl, o2⟩ := hu; obtain ⟨v0', v3', f0', f1', f2', f3'⟩ := knownC_call hK (j := 10) (d := 64) (by kernel_rfl) rfl rfl rfl rfl Try.func72 rfl (by kernel_rfl) (by simp); rw [HF.out] at f3'; obtain ⟨qc, kc, hqc, o1⟩ := f3'; have hqd : Value.slice qw lw kw = .slice qc lw kc := hqc; simp only [Value.slice.injEq, true_and] at hqd; obtain ⟨rfl, rfl⟩ := hqd; simp only [Act.put, ev_tmp, List.setIfInBounds_toArray, List.set_cons_succ, List.set_cons_zero, List.getD_cons_succ, List.getD_cons_zero])
              | ((with_reducible show wpX _ _ _ _ _ _ (Oper.mk _ (Op.call _) _ _ _ _ :: _) _); refine y_callK (f := 72) (args := #[.slice pw lw cw]) rfl rfl Try.func72 rfl (by kernel_rfl) ?_ ?_ ?_; (focus (simp [Act.eval]; done)); (focus (intro w1 hw1 hK; exact (by rw [HF.out]; exact (C1.out w1 (eD.trans hw1)).mono fun e w3 h => by obtain ⟨q, k, bs', g1, g2, g3, g4, g5, g6⟩ := retFl_thing3 Hlw.out h; exact ⟨_, g1, g5, q, k, rfl, bs', g2, g3, g4, g6⟩))); rintro u wa wb e0 hK e3 e4 hu; simp only [HF.out] at hu; obtain ⟨qw, kw, rfl, _⟩ := hu; simp only [Act.put, ev_tmp, List.setIfInBounds_toArray, List.set_cons_succ, List.set_cons_zero, List.getD_cons_succ, List.getD_cons_zero])
              | (refine x_build1 (u := .agg #[.int .i64 2, .int .i64 d2, .int .i64 d3, .slice qw lw kw, .slice qb lb kb, .slice none 0 0, .bool false]) rfl rfl rfl rfl ?_; intro g5 hg5 hg6 hg7; simp only [Act.put, ev_tmp, List.setIfInBounds_toArray, List.set_cons_succ, List.set_cons_zero, List.getD_cons_succ, List.getD_cons_zero])
              | (refine x_run rfl fun K hK w1 hw1 => ?_; have k0 := hw1.cell (y0); have k1 := hw1.cell (y1); have k2 := hw1.cell (y2); have k3 := hw1.cell (y3); have k4 := hw1.cell (y4); have k5 := hw1.cell (y5); go_simp; refine hK _ ?_; clear hK K k0 k1 k2 k3 k4 k5 hw1 w1))
            refine x_nil ?_
            have eW := eD.trans hwf
            obtain ⟨bw, p1, p2, p3, p4⟩ := o1
            obtain ⟨bb, s1, s2, s3, s4⟩ := o2
            have q1 := eD.size
            have q2 := f0'.size
            have q3 := f2'.size
            have q4 := e0.size
            have pl := p1.lt
            have lo1 : ∀ b ∈ bw, wr.heap.size ≤ b := fun b hb => by have := p3 b hb; omega
            have lo2 : ∀ b ∈ bb, wr.heap.size ≤ b := fun b hb => by have := s3 b hb; omega
            have o1 := p1.ext ((f2'.trans e3).trans e4)
            have o2 := s1.ext e4
            have ty : Tys wf [49] (bw ++ (bb ++ [])) := by rw [List.append_nil]; exact (p4.ext ((f2'.trans e3).trans e4)).app (s4.ext e4)
            have hnd : (bw ++ (bb ++ [])).Nodup := by rw [List.append_nil]; exact nodup_app p2 s2 (B := wa.heap.size) (fun x hx => by have := pl x hx; omega) (fun x hx => s3 x hx)
            have hlo : ∀ b ∈ bw ++ (bb ++ []), wr.heap.size ≤ b := fun b hb => by
              rw [List.append_nil] at hb
              rcases List.mem_append.1 hb with h | h
              · exact lo1 b h
              · exact lo2 b h
            have rowf := own_ext hc.row eW
            have hsz := hc.ext.size
            have hszw := eW.size
            have hof := hc.out.ext eW
            have neo := hc.ne.1
            clear p1 p2 p3 p4 s1 s2 s3 s4 pl lo1 lo2 y0 y1 y2 y3 y4 y5
            go_wp2_with ((with_reducible show wpList _ _ _ (Oper.mk _ (Op.call _) _ _ _ _ :: _) _ _); refine wl_app1s rfl rfl rfl rfl rowf hg7 rfl (by simp [Value.cells, Value.oneCell']) (by unfold maxLen; omega) (by omega) (by omega) ?_; intro g6 c6 w6 own6 gr6 hg6'; have l0 : HB w6 w1.heap.size #[.slice q m c8] 28 := hof.chg (.of_grown gr6) (fun hh => neo _ hh.symm rfl); have l5 := l0.cell 0 rfl; have l6 := l0.froz 0)
            go_roundw
            case rel =>
              obtain ⟨cs', bss', hc'⟩ := hc.push eW (d := (2, d2, d3, ws, bs, ())) o1 o2 own_nil hnd hlo ty own6 gr6 hg6'
              refine ⟨i + 1, m + 1, c6, some ⟨g6, 0, none⟩, cs', bss', by omega, by go_num, ?_⟩
              rw [Hsucc.out, Hc.out]
              exact hc'
            case measure => simp [intOf]; omega
          · have CO := hid (fun W h => by have := CO0.out W h; rw [hon] at this; exact this)
            have Hc := hid (cmp_skip2 (P := P) (d := (2, d2, d3, ws, bs, du)) rfl hon)
            clear hon CO0
            subst hW1
            go_wp2_with ((with_reducible show wpList _ _ _ (Oper.mk _ (Op.indexAddr _ _ _) _ _ _ _ :: Oper.mk _ (Op.load _ _) _ _ _ _ :: _) _ _); refine wl_idxloadE (s := shLayer) (j := i) rfl rfl rfl rfl (fun _ => rfl) rfl rfl rfl hp l3 l5.out hlt hs1 hci ?_; simp only [ofCs, Sh.agg, if_true])
            refine (CO.out _ E1).mono ?_
            rintro e w2 ⟨rfl, e2⟩
            have k0 := HB.cell (b5.ext e2) 0 rfl; have k1 := HB.cell (b5.ext e2) 1 rfl; have k2 := HB.cell (b5.ext e2) 2 rfl; have k3 := HB.cell (b5.ext e2) 3 rfl; have k4 := HB.cell (b5.ext e2) 4 rfl; have f0 := HB.cell (hc.out.ext (E1.trans e2)) 0 rfl
            have z0 := HB.cell (b6.ext e2) 0 rfl; have z5 := HB.cell (b6.ext e2) 5 rfl; have z6 := HB.cell (b6.ext e2) 6 rfl
            go_wp2
            go_roundw
            case rel => exact ⟨i + 1, m, c8, q, cs, bss, by omega, by go_num, by rw [Hsucc.out, Hc.out]; exact hc.on (E1.trans e2)⟩
            case measure => simp [intOf]; omega
        have hm : 1 ≤ m := by omega
        obtain ⟨g, qw0, kw0, qb0, kb0, qz, kz, bw0, bb0, bz0, rfl, _, _, _, o3, _, v0, v5, v6⟩ := last_cells hc.grow hc.len hm
        have hrd : (lastP P).2.2.2.2.2.2.1 = true → (lastP P).1 = 0 := Hrd _ (lastP_mem (by have := hc.len; omega))
        have hdm : decide ((0 : Int) < (m : Int)) = true := by simp; omega
        obtain ⟨Lx, hLx⟩ : ∃ Lx, Lx = (m - 1) * 7 := ⟨_, rfl⟩
        rw [← hLx] at v0 v5 v6
        have HLx := hid hLx.symm
        have hRB : reluB (lastP P) = (decide ((lastP P).1 = 1) || decide ((lastP P).1 = 4) || (decide ((lastP P).1 = 0) && (lastP P).2.2.2.2.2.2.1)) := rfl
        have hBB : bareB (lastP P) = (decide ((lastP P).1 = 0) && decide (((lastP P).2.2.2.2.2.1 : List Nat).length = 0) && !(lastP P).2.2.2.2.2.2.1) := rfl
        obtain ⟨_, _, _, hls⟩ := rep_val o3.rep
        unfold maxLen at hls
        clear hLx Hrd hm0 o3
        generalize hsk : (lastP P).1 = sk at v0 hRB hBB hrd
        generalize hlz : ((lastP P).2.2.2.2.2.1 : List Nat).length = lz at v5 hBB hls
        generalize hr : (lastP P).2.2.2.2.2.2.1 = r at v6 hRB hBB hrd
        clear hsk hlz hr
        have z0 := E1.cell v0; have z5 := E1.cell v5; have z6 := E1.cell v6
        clear hRB hrd
        by_cases hk0 : sk = 0
        · subst hk0
          by_cases hz : lz = 0
          · subst hz
            cases r
            · have hBare : bareB (lastP P) = true := by rw [hBB]; rfl
              clear hBB
              cases hon : onesB ws
              · have CO := hid (fun W h => by have := CO0.out W h; rw [hon] at this; exact this)
                have Hc := hid (cmp_scale (P := P) (d := (2, d2, d3, ws, bs, du)) rfl hon hBare)
                clear hon CO0
                subst hW1
                go_wp2_with (first | ((with_reducible show wpList _ _ _ (Oper.mk _ (Op.indexAddr _ _ _) _ _ _ _ :: Oper.mk _ (Op.load _ _) _ _ _ _ :: _) _ _); refine wl_idxloadE (s := shLayer) (j := i) rfl rfl rfl rfl (fun _ => rfl) rfl rfl rfl hp l3 l5.out hlt hs1 hci ?_; simp only [ofCs, Sh.agg, if_true]) | ((with_reducible show wpList _ _ _ (Oper.mk _ (Op.indexAddr _ _ _) _ _ _ _ :: _) _ _); refine wl_idxE (s := 7) (j := m - 1) rfl rfl rfl rfl (by omega) rfl (by omega) ?_; rw [adr_row, HLx.out]))
                refine (CO.out _ E1).mono ?_
                rintro e w2 ⟨rfl, e2⟩
                have k0 := HB.cell (b5.ext e2) 0 rfl; have k1 := HB.cell (b5.ext e2) 1 rfl; have k2 := HB.cell (b5.ext e2) 2 rfl; have k3 := HB.cell (b5.ext e2) 3 rfl; have k4 := HB.cell (b5.ext e2) 4 rfl; have f0 := HB.cell (hc.out.ext (E1.trans e2)) 0 rfl
                have z0 := (E1.trans e2).cell v0; have z5 := (E1.trans e2).cell v5; have z6 := (E1.trans e2).cell v6
                go_wp2_with fail
                refine (C1.out _ (E1.trans e2)).mono ?_
                intro e w3 h3
                obtain ⟨qx, kx, bx, rfl, ox, nx, lox, e3, tx⟩ := retFl_thing3 Hlw.out h3
                have eX := E1.trans (e2.trans e3)
                have rowx := own_ext hc.row eX
                have x1 := E1.size
                have x2 := e2.size
                clear h3
                go_wp2_with ((with_reducible show wpList _ _ _ (Oper.mk _ (Op.store _ _ _) _ _ _ _ :: _) _ _); refine wl_stRC (i := Lx + 5) rfl rfl rfl rfl rfl rowx (by have := HLx.out; omega) ?_; intro w9 own9 gr9)
                go_roundw
                case rel =>
                  rw [← HLx.out] at own9
                  obtain ⟨cs', bss', hc'⟩ := hc.scale eX hm ox nx (fun b hb => by have := lox b hb; omega) tx own9 gr9
                  refine ⟨i + 1, m, c8, some ⟨g, 0, none⟩, cs', bss', by omega, by go_num, ?_⟩
                  rw [Hsucc.out, Hc.out, hc.len]
                  exact hc'
                case measure => simp [intOf]; omega
              · have CO := hid (fun W h => by have := CO0.out W h; rw [hon] at this; exact this)
                have Hc := hid (cmp_skip2 (P := P) (d := (2, d2, d3, ws, bs, du)) rfl hon)
                clear hon CO0
                subst hW1
                go_wp2_with (first | ((with_reducible show wpList _ _ _ (Oper.mk _ (Op.indexAddr _ _ _) _ _ _ _ :: Oper.mk _ (Op.load _ _) _ _ _ _ :: _) _ _); refine wl_idxloadE (s := shLayer) (j := i) rfl rfl rfl rfl (fun _ => rfl) rfl rfl rfl hp l3 l5.out hlt hs1 hci ?_; simp only [ofCs, Sh.agg, if_true]) | ((with_reducible show wpList _ _ _ (Oper.mk _ (Op.indexAddr _ _ _) _ _ _ _ :: _) _ _); refine wl_idxE (s := 7) (j := m - 1) rfl rfl rfl rfl (by omega) rfl (by omega) ?_; rw [adr_row, HLx.out]))
                refine (CO.out _ E1).mono ?_
                rintro e w2 ⟨rfl, e2⟩
                have k0 := HB.cell (b5.ext e2) 0 rfl; have k1 := HB.cell (b5.ext e2) 1 rfl; have k2 := HB.cell (b5.ext e2) 2 rfl; have k3 := HB.cell (b5.ext e2) 3 rfl; have k4 := HB.cell (b5.ext e2) 4 rfl; have f0 := HB.cell (hc.out.ext (E1.trans e2)) 0 rfl
                have z0 := (E1.trans e2).cell v0; have z5 := (E1.trans e2).cell v5; have z6 := (E1.trans e2).cell v6
                go_wp2
                go_roundw
                case rel => exact ⟨i + 1, m, c8, (some ⟨g, 0, none⟩), cs, bss, by omega, by go_num, by rw [Hsucc.out, Hc.out]; exact hc.on (E1.trans e2)⟩
                case measure => simp [intOf]; omega
            · have hBare : bareB (lastP P) = false := by rw [hBB]; rfl
              clear hBB
              cases hon : onesB ws
              · have CO := hid (fun W h => by have := CO0.out W h; rw [hon] at this; exact this)
                have Hc := hid (cmp_push2 (P := P) (d := (2, d2, d3, ws, bs, du)) rfl hon hBare)
                clear hon CO0
                subst hW1
                go_wp2_with (first | ((with_reducible show wpList _ _ _ (Oper.mk _ (Op.indexAddr _ _ _) _ _ _ _ :: Oper.mk _ (Op.load _ _) _ _ _ _ :: _) _ _); refine wl_idxloadE (s := shLayer) (j := i) rfl rfl rfl rfl (fun _ => rfl) rfl rfl rfl hp l3 l5.out hlt hs1 hci ?_; simp only [ofCs, Sh.agg, if_true]) | ((with_reducible show wpList _ _ _ (Oper.mk _ (Op.indexAddr _ _ _) _ _ _ _ :: _) _ _); refine wl_idxE (s := 7) (j := m - 1) rfl rfl rfl rfl (by omega) rfl (by omega) ?_; rw [adr_row, HLx.out]))
                refine (CO.out _ E1).mono ?_
                rintro e w2 ⟨rfl, e2⟩
                have k0 := HB.cell (b5.ext e2) 0 rfl; have k1 := HB.cell (b5.ext e2) 1 rfl; have k2 := HB.cell (b5.ext e2) 2 rfl; have k3 := HB.cell (b5.ext e2) 3 rfl; have k4 := HB.cell (b5.ext e2) 4 rfl; have f0 := HB.cell (hc.out.ext (E1.trans e2)) 0 rfl
                have z0 := (E1.trans e2).cell v0; have z5 := (E1.trans e2).cell v5; have z6 := (E1.trans e2).cell v6
                go_wp2
                have eD := (E1.trans e2).trans (Ext.drew _)
                have t5 := HB.ext (b5.ext e2) (Ext.drew _)
                have y0 := HB.cell (hc.out.ext eD) 0 rfl; have y1 := t5.cell 0 rfl; have y2 := t5.cell 1 rfl; have y3 := t5.cell 2 rfl; have y4 := t5.cell 3 rfl; have y5 := t5.cell 4 rfl
                obtain ⟨F, hF⟩ : ∃ F : Option Tmp → World → World → Value → Prop, F = fun d w0 W u => match d with | some 64 => ∃ q k, u = .slice q lw k ∧ IsOwnY [49] w0.heap.size (.sl .flt) W [.slice q lw k] ws | _ => ∃ q k, u = .slice q lb k ∧ IsOwnY [49] w0.heap.size (.sl .flt) W [.slice q lb k] bs := ⟨_, rfl⟩
                have HF := hid hF
                clear hF
                refine wp_region_yt 16 (F := F) (by kernel_rfl) (by kernel_rfl) (by kernel_rfl) (by kernel_rfl) (by kernel_rfl) ?_
                intro wf hwf
                simp only [List.take_succ_cons, List.take_zero, List.drop_succ_cons, List.drop_zero]
                repeat (first
                  | (refine x_skip rfl ?_; simp only [Act.put, ev_tmp, List.setIfInBounds_toArray, List.set_cons_succ, List.set_cons_zero, List.getD_cons_succ, List.getD_cons_zero])
                  | (refine x_mv rfl rfl rfl ?_; simp only [Act.put, ev_tmp, List.setIfInBounds_toArray, List.set_cons_succ, List.set_cons_zero, List.getD_cons_succ, List.getD_cons_zero])
                  | (refine x_as rfl rfl rfl ?_; simp only [Act.put, ev_tmp, List.setIfInBounds_toArray, List.set_cons_succ, List.set_cons_zero, List.getD_cons_succ, List.getD_cons_zero])
                  | ((with_reducible show wpX _ _ _ _ _ _ (Oper.mk _ (Op.call _) _ _ _ _ :: _) _); refine y_callK (f := 72) (args := #[.slice pb lb cb]) rfl rfl Try.func72 rfl (by kernel_rfl) ?_ ?_ ?_; (focus (simp [Act.eval]; done)); (focus (intro w1 hw1 hK; exact (by rw [HF.out]; exact (C2.out w1 (eD.trans hw1)).mono fun e w3 h => by obtain ⟨q, k, bs', g1, g2, g3, g4, g5, g6⟩ := retFl_thing3 Hlb.out h; exact ⟨_, g1, g5, q, k, rfl, bs', g2, g3, g4, g6⟩))); rintro u wa wb e0 hK e3 e4 hu; simp only [HF.out] at hu; obtain ⟨qb, kb, rfl, o2⟩ := hu; obtain ⟨v0', v3', f0', f1', f2', f3'⟩ := knownC_call hK (j := 10) (d := 64) (by kernel_rfl) rfl rfl rfl rfl Try.func72 rfl (by kernel_rfl) (by simp); rw [HF.out] at f3'; obtain ⟨qc, kc, hqc, o1⟩ := f3'; have hqd : Value.slice qw lw kw = .slice qc lw kc := hqc; simp only [Value.slice.injEq, true_and] at hqd; obtain ⟨rfl, rfl⟩ := hqd; simp only [Act.put, ev_tmp, List.setIfInBounds_toArray, List.set_cons_succ, List.set_cons_zero, List.getD_cons_succ, List.getD_cons_zero])
                  | ((with_reducible show wpX _ _ _ _ _ _ (Oper.mk _ (Op.call _) _ _ _ _ :: _) _); refine y_callK (f := 72) (args := #[.slice pw lw cw]) rfl rfl Try.func72 rfl (by kernel_rfl) ?_ ?_ ?_; (focus (simp [Act.eval]; done)); (focus (intro w1 hw1 hK; exact (by rw [HF.out]; exact (C1.out w1 (eD.trans hw1)).mono fun e w3 h => by obtain ⟨q, k, bs', g1, g2, g3, g4, g5, g6⟩ := retFl_thing3 Hlw.out h; exact ⟨_, g1, g5, q, k, rfl, bs', g2, g3, g4, g6⟩))); rintro u wa wb e0 hK e3 e4 hu; simp only [HF.out] at hu; obtain ⟨qw, kw, rfl, _⟩ := hu; simp only [Act.put, ev_tmp, List.setIfInBounds_toArray, List.set_cons_succ, List.set_cons_zero, List.getD_cons_succ, List.getD_cons_zero])
                  | (refine x_build1 (u := .agg #[.int .i64 2, .int .i64 d2, .int .i64 d3, .slice qw lw kw, .slice qb lb kb, .slice none 0 0, .bool false]) rfl rfl rfl rfl ?_; intro g5 hg5 hg6 hg7; simp only [Act.put, ev_tmp, List.setIfInBounds_toArray, List.set_cons_succ, List.set_cons_zero, List.getD_cons_succ, List.getD_cons_zero])
                  | (refine x_run rfl fun K hK w1 hw1 => ?_; have k0 := hw1.cell (y0); have k1 := hw1.cell (y1); have k2 := hw1.cell (y2); have k3 := hw1.cell (y3); have k4 := hw1.cell (y4); have k5 := hw1.cell (y5); go_simp; refine hK _ ?_; clear hK K k0 k1 k2 k3 k4 k5 hw1 w1))
                refine x_nil ?_
                have eW := eD.trans hwf
                obtain ⟨bw, p1, p2, p3, p4⟩ := o1
                obtain ⟨bb, s1, s2, s3, s4⟩ := o2
                have q1 := eD.size
                have q2 := f0'.size
                have q3 := f2'.size
                have q4 := e0.size
                have pl := p1.lt
                have lo1 : ∀ b ∈ bw, wr.heap.size ≤ b := fun b hb => by have := p3 b hb; omega
                have lo2 : ∀ b ∈ bb, wr.heap.size ≤ b := fun b hb => by have := s3 b hb; omega
                have o1 := p1.ext ((f2'.trans e3).trans e4)
                have o2 := s1.ext e4
                have ty : Tys wf [49] (bw ++ (bb ++ [])) := by rw [List.append_nil]; exact (p4.ext ((f2'.trans e3).trans e4)).app (s4.ext e4)
                have hnd : (bw ++ (bb ++ [])).Nodup := by rw [List.append_nil]; exact nodup_app p2 s2 (B := wa.heap.size) (fun x hx => by have := pl x hx; omega) (fun x hx => s3 x hx)
                have hlo : ∀ b ∈ bw ++ (bb ++ []), wr.heap.size ≤ b := fun b hb => by
                  rw [List.append_nil] at hb
                  rcases List.mem_append.1 hb with h | h
                  · exact lo1 b h
                  · exact lo2 b h
                have rowf := own_ext hc.row eW
                have hsz := hc.ext.size
                have hszw := eW.size
                have hof := hc.out.ext eW
                have neo := hc.ne.1
                clear p1 p2 p3 p4 s1 s2 s3 s4 pl lo1 lo2 y0 y1 y2 y3 y4 y5
                go_wp2_with ((with_reducible show wpList _ _ _ (Oper.mk _ (Op.call _) _ _ _ _ :: _) _ _); refine wl_app1s rfl rfl rfl rfl rowf hg7 rfl (by simp [Value.cells, Value.oneCell']) (by unfold maxLen; omega) (by omega) (by omega) ?_; intro g6 c6 w6 own6 gr6 hg6'; have l0 : HB w6 w1.heap.size #[.slice (some ⟨g, 0, none⟩) m c8] 28 := hof.chg (.of_grown gr6) (fun hh => neo _ hh.symm rfl); have l5 := l0.cell 0 rfl; have l6 := l0.froz 0)
                go_roundw
                case rel =>
                  obtain ⟨cs', bss', hc'⟩ := hc.push eW (d := (2, d2, d3, ws, bs, ())) o1 o2 own_nil hnd hlo ty own6 gr6 hg6'
                  refine ⟨i + 1, m + 1, c6, some ⟨g6, 0, none⟩, cs', bss', by omega, by go_num, ?_⟩
                  rw [Hsucc.out, Hc.out]
                  exact hc'
                case measure => simp [intOf]; omega
              · have CO := hid (fun W h => by have := CO0.out W h; rw [hon] at this; exact this)
                have Hc := hid (cmp_skip2 (P := P) (d := (2, d2, d3, ws, bs, du)) rfl hon)
                clear hon CO0
                subst hW1
                go_wp2_with (first | ((with_reducible show wpList _ _ _ (Oper.mk _ (Op.indexAddr _ _ _) _ _ _ _ :: Oper.mk _ (Op.load _ _) _ _ _ _ :: _) _ _); refine wl_idxloadE (s := shLayer) (j := i) rfl rfl rfl rfl (fun _ => rfl) rfl rfl rfl hp l3 l5.out hlt hs1 hci ?_; simp only [ofCs, Sh.agg, if_true]) | ((with_reducible show wpList _ _ _ (Oper.mk _ (Op.indexAddr _ _ _) _ _ _ _ :: _) _ _); refine wl_idxE (s := 7) (j := m - 1) rfl rfl rfl rfl (by omega) rfl (by omega) ?_; rw [adr_row, HLx.out]))
                refine (CO.out _ E1).mono ?_
                rintro e w2 ⟨rfl, e2⟩
                have k0 := HB.cell (b5.ext e2) 0 rfl; have k1 := HB.cell (b5.ext e2) 1 rfl; have k2 := HB.cell (b5.ext e2) 2 rfl; have k3 := HB.cell (b5.ext e2) 3 rfl; have k4 := HB.cell (b5.ext e2) 4 rfl; have f0 := HB.cell (hc.out.ext (E1.trans e2)) 0 rfl
                have z0 := (E1.trans e2).cell v0; have z5 := (E1.trans e2).cell v5; have z6 := (E1.trans e2).cell v6
                go_wp2
                go_roundw
                case rel => exact ⟨i + 1, m, c8, (some ⟨g, 0, none⟩), cs, bss, by omega, by go_num, by rw [Hsucc.out, Hc.out]; exact hc.on (E1.trans e2)⟩
                case measure => simp [intOf]; omega
          · have Qz := beq_f (show ¬ (lz : Int) = 0 by omega)
            have hBare : bareB (lastP P) = false := by rw [hBB, decide_eq_false hz]; rfl
            clear hBB
            cases hon : onesB ws
            · have CO := hid (fun W h => by have := CO0.out W h; rw [hon] at this; exact this)
              have Hc := hid (cmp_push2 (P := P) (d := (2, d2, d3, ws, bs, du)) rfl hon hBare)
              clear hon CO0
              subst hW1
              go_wp2_with (first | ((with_reducible show wpList _ _ _ (Oper.mk _ (Op.indexAddr _ _ _) _ _ _ _ :: Oper.mk _ (Op.load _ _) _ _ _ _ :: _) _ _); refine wl_idxloadE (s := shLayer) (j := i) rfl rfl rfl rfl (fun _ => rfl) rfl rfl rfl hp l3 l5.out hlt hs1 hci ?_; simp only [ofCs, Sh.agg, if_true]) | ((with_reducible show wpList _ _ _ (Oper.mk _ (Op.indexAddr _ _ _) _ _ _ _ :: _) _ _); refine wl_idxE (s := 7) (j := m - 1) rfl rfl rfl rfl (by omega) rfl (by omega) ?_; rw [adr_row, HLx.out]))
              refine (CO.out _ E1).mono ?_
              rintro e w2 ⟨rfl, e2⟩
              have k0 := HB.cell (b5.ext e2) 0 rfl; have k1 := HB.cell (b5.ext e2) 1 rfl; have k2 := HB.cell (b5.ext e2) 2 rfl; have k3 := HB.cell (b5.ext e2) 3 rfl; have k4 := HB.cell (b5.ext e2) 4 rfl; have f0 := HB.cell (hc.out.ext (E1.trans e2)) 0 rfl
              have z0 := (E1.trans e2).cell v0; have z5 := (E1.trans e2).cell v5; have z6 := (E1.trans e2).cell v6
              go_wp2
              have eD := (E1.trans e2).trans (Ext.drew _)
              have t5 := HB.ext (b5.ext e2) (Ext.drew _)
              have y0 := HB.cell (hc.out.ext eD) 0 rfl; have y1 := t5.cell 0 rfl; have y2 := t5.cell 1 rfl; have y3 := t5.cell 2 rfl; have y4 := t5.cell 3 rfl; have y5 := t5.cell 4 rfl
              obtain ⟨F, hF⟩ : ∃ F : Option Tmp → World → World → Value → Prop, F = fun d w0 W u => match d with | some 64 => ∃ q k, u = .slice q lw k ∧ IsOwnY [49] w0.heap.size (.sl .flt) W [.slice q lw k] ws | _ => ∃ q k, u = .slice q lb k ∧ IsOwnY [49] w0.heap.size (.sl .flt) W [.slice q lb k] bs := ⟨_, rfl⟩
              have HF := hid hF
              clear hF
              refine wp_region_yt 16 (F := F) (by kernel_rfl) (by kernel_rfl) (by kernel_rfl) (by kernel_rfl) (by kernel_rfl) ?_
              intro wf hwf
              simp only [List.take_succ_cons, List.take_zero, List.drop_succ_cons, List.drop_zero]
              repeat (first
                | (refine x_skip rfl ?_; simp only [Act.put, ev_tmp, List.setIfInBounds_toArray, List.set_cons_succ, List.set_cons_zero, List.getD_cons_succ, List.getD_cons_zero])
                | (refine x_mv rfl rfl rfl ?_; simp only [Act.put, ev_tmp, List.setIfInBounds_toArray, List.set_cons_succ, List.set_cons_zero, List.getD_cons_succ, List.getD_cons_zero])
                | (refine x_as rfl rfl rfl ?_; simp only [Act.put, ev_tmp, List.setIfInBounds_toArray, List.set_cons_succ, List.set_cons_zero, List.getD_cons_succ, List.getD_cons_zero])
                | ((with_reducible show wpX _ _ _ _ _ _ (Oper.mk _ (Op.call _) _ _ _ _ :: _) _); refine y_callK (f := 72) (args := #[.slice pb lb cb]) rfl rfl Try.func72 rfl (by kernel_rfl) ?_ ?_ ?_; (focus (simp [Act.eval]; done)); (focus (intro w1 hw1 hK; exact (by rw [HF.out]; exact (C2.out w1 (eD.trans hw1)).mono fun e w3 h => by obtain ⟨q, k, bs', g1, g2, g3, g4, g5, g6⟩ := retFl_thing3 Hlb.out h; exact ⟨_, g1, g5, q, k, rfl, bs', g2, g3, g4, g6⟩))); rintro u wa wb e0 hK e3 e4 hu; simp only [HF.out] at hu; obtain ⟨qb, kb, rfl, o2⟩ := hu; obtain ⟨v0', v3', f0', f1', f2', f3'⟩ := knownC_call hK (j := 10) (d := 64) (by kernel_rfl) rfl rfl rfl rfl Try.func72 rfl (by kernel_rfl) (by simp); rw [HF.out] at f3'; obtain ⟨qc, kc, hqc, o1⟩ := f3'; have hqd : Value.slice qw lw kw = .slice qc lw kc := hqc; simp only [Value.slice.injEq, true_and] at hqd; obtain ⟨rfl, rfl⟩ := hqd; simp only [Act.put, ev_tmp, List.setIfInBounds_toArray, List.set_cons_succ, List.set_cons_zero, List.getD_cons_succ, List.getD_cons_zero])
                | ((with_reducible show wpX _ _ _ _ _ _ (Oper.mk _ (Op.call _) _ _ _ _ :: _) _); refine y_callK (f := 72) (args := #[.slice pw lw cw]) rfl rfl Try.func72 rfl (by kernel_rfl) ?_ ?_ ?_; (focus (simp [Act.eval]; done)); (focus (intro w1 hw1 hK; exact (by rw [HF.out]; exact (C1.out w1 (eD.trans hw1)).mono fun e w3 h => by obtain ⟨q, k, bs', g1, g2, g3, g4, g5, g6⟩ := retFl_thing3 Hlw.out h; exact ⟨_, g1, g5, q, k, rfl, bs', g2, g3, g4, g6⟩))); rintro u wa wb e0 hK e3 e4 hu; simp only [HF.out] at hu; obtain ⟨qw, kw, rfl, _⟩ := hu; simp only [Act.put, ev_tmp, List.setIfInBounds_toArray, List.set_cons_succ, List.set_cons_zero, List.getD_cons_succ, List.getD_cons_zero])
                | (refine x_build1 (u := .agg #[.int .i64 2, .int .i64 d2, .int .i64 d3, .slice qw lw kw, .slice qb lb kb, .slice none 0 0, .bool false]) rfl rfl rfl rfl ?_; intro g5 hg5 hg6 hg7; simp only [Act.put, ev_tmp, List.setIfInBounds_toArray, List.set_cons_succ, List.set_cons_zero, List.getD_cons_succ, List.getD_cons_zero])
                | (refine x_run rfl fun K hK w1 hw1 => ?_; have k0 := hw1.cell (y0); have k1 := hw1.cell (y1); have k2 := hw1.cell (y2); have k3 := hw1.cell (y3); have k4 := hw1.cell (y4); have k5 := hw1.cell (y5); go_simp; refine hK _ ?_; clear hK K k0 k1 k2 k3 k4 k5 hw1 w1))
              refine x_nil ?_
              have eW := eD.trans hwf
              obtain ⟨bw, p1, p2, p3, p4⟩ := o1
              obtain ⟨bb, s1, s2, s3, s4⟩ := o2
              have q1 := eD.size
              have q2 := f0'.size
              have q3 := f2'.size
              have q4 := e0.size
              have pl := p1.lt
              have lo1 : ∀ b ∈ bw, wr.heap.size ≤ b := fun b hb => by have := p3 b hb; omega
              have lo2 : ∀ b ∈ bb, wr.heap.size ≤ b := fun b hb => by have := s3 b hb; omega
              have o1 := p1.ext ((f2'.trans e3).trans e4)
              have o2 := s1.ext e4
              have ty : Tys wf [49] (bw ++ (bb ++ [])) := by rw [List.append_nil]; exact (p4.ext ((f2'.trans e3).trans e4)).app (s4.ext e4)
              have hnd : (bw ++ (bb ++ [])).Nodup := by rw [List.append_nil]; exact nodup_app p2 s2 (B := wa.heap.size) (fun x hx => by have := pl x hx; omega) (fun x hx => s3 x hx)
              have hlo : ∀ b ∈ bw ++ (bb ++ []), wr.heap.size ≤ b := fun b hb => by
                rw [List.append_nil] at hb
                rcases List.mem_append.1 hb with h | h
                · exact lo1 b h
                · exact lo2 b h
              have rowf := own_ext hc.row eW
              have hsz := hc.ext.size
              have hszw := eW.size
              have hof := hc.out.ext eW
              have neo := hc.ne.1
              clear p1 p2 p3 p4 s1 s2 s3 s4 pl lo1 lo2 y0 y1 y2 y3 y4 y5
              go_wp2_with ((with_reducible show wpList _ _ _ (Oper.mk _ (Op.call _) _ _ _ _ :: _) _ _); refine wl_app1s rfl rfl rfl rfl rowf hg7 rfl (by simp [Value.cells, Value.oneCell']) (by unfold maxLen; omega) (by omega) (by omega) ?_; intro g6 c6 w6 own6 gr6 hg6'; have l0 : HB w6 w1.heap.size #[.slice (some ⟨g, 0, none⟩) m c8] 28 := hof.chg (.of_grown gr6) (fun hh => neo _ hh.symm rfl); have l5 := l0.cell 0 rfl; have l6 := l0.froz 0)
              go_roundw
              case rel =>
                obtain ⟨cs', bss', hc'⟩ := hc.push eW (d := (2, d2, d3, ws, bs, ())) o1 o2 own_nil hnd hlo ty own6 gr6 hg6'
                refine ⟨i + 1, m + 1, c6, some ⟨g6, 0, none⟩, cs', bss', by omega, by go_num, ?_⟩
                rw [Hsucc.out, Hc.out]
                exact hc'
              case measure => simp [intOf]; omega
            · have CO := hid (fun W h => by have := CO0.out W h; rw [hon] at this; exact this)
              have Hc := hid (cmp_skip2 (P := P) (d := (2, d2, d3, ws, bs, du)) rfl hon)
              clear hon CO0
              subst hW1
              go_wp2_with (first | ((with_reducible show wpList _ _ _ (Oper.mk _ (Op.indexAddr _ _ _) _ _ _ _ :: Oper.mk _ (Op.load _ _) _ _ _ _ :: _) _ _); refine wl_idxloadE (s := shLayer) (j := i) rfl rfl rfl rfl (fun _ => rfl) rfl rfl rfl hp l3 l5.out hlt hs1 hci ?_; simp only [ofCs, Sh.agg, if_true]) | ((with_reducible show wpList _ _ _ (Oper.mk _ (Op.indexAddr _ _ _) _ _ _ _ :: _) _ _); refine wl_idxE (s := 7) (j := m - 1) rfl rfl rfl rfl (by omega) rfl (by omega) ?_; rw [adr_row, HLx.out]))
              refine (CO.out _ E1).mono ?_
              rintro e w2 ⟨rfl, e2⟩
              have k0 := HB.cell (b5.ext e2) 0 rfl; have k1 := HB.cell (b5.ext e2) 1 rfl; have k2 := HB.cell (b5.ext e2) 2 rfl; have k3 := HB.cell (b5.ext e2) 3 rfl; have k4 := HB.cell (b5.ext e2) 4 rfl; have f0 := HB.cell (hc.out.ext (E1.trans e2)) 0 rfl
              have z0 := (E1.trans e2).cell v0; have z5 := (E1.trans e2).cell v5; have z6 := (E1.trans e2).cell v6
              go_wp2
              go_roundw
              case rel => exact ⟨i + 1, m, c8, (some ⟨g, 0, none⟩), cs, bss, by omega, by go_num, by rw [Hsucc.out, Hc.out]; exact hc.on (E1.trans e2)⟩
              case measure => simp [intOf]; omega
        · have Q0 := beq_f hk0
          have hBare : bareB (lastP P) = false := by rw [hBB, decide_eq_false hk0]; rfl
          clear hBB
          cases hon : onesB ws
          · have CO := hid (fun W h => by have := CO0.out W h; rw [hon] at this; exact this)
            have Hc := hid (cmp_push2 (P := P) (d := (2, d2, d3, ws, bs, du)) rfl hon hBare)
            clear hon CO0
            subst hW1
            go_wp2_with (first | ((with_reducible show wpList _ _ _ (Oper.mk _ (Op.indexAddr _ _ _) _ _ _ _ :: Oper.mk _ (Op.load _ _) _ _ _ _ :: _) _ _); refine wl_idxloadE (s := shLayer) (j := i) rfl rfl rfl rfl (fun _ => rfl) rfl rfl rfl hp l3 l5.out hlt hs1 hci ?_; simp only [ofCs, Sh.agg, if_true]) | ((with_reducible show wpList _ _ _ (Oper.mk _ (Op.indexAddr _ _ _) _ _ _ _ :: _) _ _); refine wl_idxE (s := 7) (j := m - 1) rfl rfl rfl rfl (by omega) rfl (by omega) ?_; rw [adr_row, HLx.out]))
            refine (CO.out _ E1).mono ?_
            rintro e w2 ⟨rfl, e2⟩
            have k0 := HB.cell (b5.ext e2) 0 rfl; have k1 := HB.cell (b5.ext e2) 1 rfl; have k2 := HB.cell (b5.ext e2) 2 rfl; have k3 := HB.cell (b5.ext e2) 3 rfl; have k4 := HB.cell (b5.ext e2) 4 rfl; have f0 := HB.cell (hc.out.ext (E1.trans e2)) 0 rfl
            have z0 := (E1.trans e2).cell v0; have z5 := (E1.trans e2).cell v5; have z6 := (E1.trans e2).cell v6
            go_wp2
            have eD := (E1.trans e2).trans (Ext.drew _)
            have t5 := HB.ext (b5.ext e2) (Ext.drew _)
            have y0 := HB.cell (hc.out.ext eD) 0 rfl; have y1 := t5.cell 0 rfl; have y2 := t5.cell 1 rfl; have y3 := t5.cell 2 rfl; have y4 := t5.cell 3 rfl; have y5 := t5.cell 4 rfl
            obtain ⟨F, hF⟩ : ∃ F : Option Tmp → World → World → Value → Prop, F = fun d w0 W u => match d with | some 64 => ∃ q k, u = .slice q lw k ∧ IsOwnY [49] w0.heap.size (.sl .flt) W [.slice q lw k] ws | _ => ∃ q k, u = .slice q lb k ∧ IsOwnY [49] w0.heap.size (.sl .flt) W [.slice q lb k] bs := ⟨_, rfl⟩
            have HF := hid hF
            clear hF
            refine wp_region_yt 16 (F := F) (by kernel_rfl) (by kernel_rfl) (by kernel_rfl) (by kernel_rfl) (by kernel_rfl) ?_
            intro wf hwf
            simp only [List.take_succ_cons, List.take_zero, List.drop_succ_cons, List.drop_zero]
            repeat (first
              | (refine x_skip rfl ?_; simp only [Act.put, ev_tmp, List.setIfInBounds_toArray, List.set_cons_succ, List.set_cons_zero, List.getD_cons_succ, List.getD_cons_zero])
              | (refine x_mv rfl rfl rfl ?_; simp only [Act.put, ev_tmp, List.setIfInBounds_toArray, List.set_cons_succ, List.set_cons_zero, List.getD_cons_succ, List.getD_cons_zero])
              | (refine x_as rfl rfl rfl ?_; simp only [Act.put, ev_tmp, List.setIfInBounds_toArray, List.set_cons_succ, List.set_cons_zero, List.getD_cons_succ, List.getD_cons_zero])
              | ((with_reducible show wpX _ _ _ _ _ _ (Oper.mk _ (Op.call _) _ _ _ _ :: _) _); refine y_callK (f := 72) (args := #[.slice pb lb cb]) rfl rfl Try.func72 rfl (by kernel_rfl) ?_ ?_ ?_; (focus (simp [Act.eval]; done)); (focus (intro w1 hw1 hK; exact (by rw [HF.out]; exact (C2.out w1 (eD.trans hw1)).mono fun e w3 h => by obtain ⟨q, k, bs', g1, g2, g3, g4, g5, g6⟩ := retFl_thing3 Hlb.out h; exact ⟨_, g1, g5, q, k, rfl, bs', g2, g3, g4, g6⟩))); rintro u wa wb e0 hK e3 e4 hu; simp only [HF.out] at hu; obtain ⟨qb, kb, rfl, o2⟩ := hu; obtain ⟨v0', v3', f0', f1', f2', f3'⟩ := knownC_call hK (j := 10) (d := 64) (by kernel_rfl) rfl rfl rfl rfl Try.func72 rfl (by kernel_rfl) (by simp); rw [HF.out] at f3'; obtain ⟨qc, kc, hqc, o1⟩ := f3'; have hqd : Value.slice qw lw kw = .slice qc lw kc := hqc; simp only [Value.slice.injEq, true_and] at hqd; obtain ⟨rfl, rfl⟩ := hqd; simp only [Act.put, ev_tmp, List.setIfInBounds_toArray, List.set_cons_succ, List.set_cons_zero, List.getD_cons_succ, List.getD_cons_zero])
              | ((with_reducible show wpX _ _ _ _ _ _ (Oper.mk _ (Op.call _) _ _ _ _ :: _) _); refine y_callK (f := 72) (args := #[.slice pw lw cw]) rfl rfl Try.func72 rfl (by kernel_rfl) ?_ ?_ ?_; (focus (simp [Act.eval]; done)); (focus (intro w1 hw1 hK; exact (by rw [HF.out]; exact (C1.out w1 (eD.trans hw1)).mono fun e w3 h => by obtain ⟨q, k, bs', g1, g2, g3, g4, g5, g6⟩ := retFl_thing3 Hlw.out h; exact ⟨_, g1, g5, q, k, rfl, bs', g2, g3, g4, g6⟩))); rintro u wa wb e0 hK e3 e4 hu; simp only [HF.out] at hu; obtain ⟨qw, kw, rfl, _⟩ := hu; simp only [Act.put, ev_tmp, List.setIfInBounds_toArray, List.set_cons_succ, List.set_cons_zero, List.getD_cons_succ, List.getD_cons_zero])
              | (refine x_build1 (u := .agg #[.int .i64 2, .int .i64 d2, .int .i64 d3, .slice qw lw kw, .slice qb lb kb, .slice none 0 0, .bool false]) rfl rfl rfl rfl ?_; intro g5 hg5 hg6 hg7; simp only [Act.put, ev_tmp, List.setIfInBounds_toArray, List.set_cons_succ, List.set_cons_zero, List.getD_cons_succ, List.getD_cons_zero])
              | (refine x_run rfl fun K hK w1 hw1 => ?_; have k0 := hw1.cell (y0); have k1 := hw1.cell (y1); have k2 := hw1.cell (y2); have k3 := hw1.cell (y3); have k4 := hw1.cell (y4); have k5 := hw1.cell (y5); go_simp; refine hK _ ?_; clear hK K k0 k1 k2 k3 k4 k5 hw1 w1))
            refine x_nil ?_
            have eW := eD.trans hwf
            obtain ⟨bw, p1, p2, p3, p4⟩ := o1
            obtain ⟨bb, s1, s2, s3, s4⟩ := o2
            have q1 := eD.size
            have q2 := f0'.size
            have q3 := f2'.size
            have q4 := e0.size
            have pl := p1.lt
            have lo1 : ∀ b ∈ bw, wr.heap.size ≤ b := fun b hb => by have := p3 b hb; omega
            have lo2 : ∀ b ∈ bb, wr.heap.size ≤ b := fun b hb => by have := s3 b hb; omega
            have o1 := p1.ext ((f2'.trans e3).trans e4)
            have o2 := s1.ext e4
            have ty : Tys wf [49] (bw ++ (bb ++ [])) := by rw [List.append_nil]; exact (p4.ext ((f2'.trans e3).trans e4)).app (s4.ext e4)
            have hnd : (bw ++ (bb ++ [])).Nodup := by rw [List.append_nil]; exact nodup_app p2 s2 (B := wa.heap.size) (fun x hx => by have := pl x hx; omega) (fun x hx => s3 x hx)
            have hlo : ∀ b ∈ bw ++ (bb ++ []), wr.heap.size ≤ b := fun b hb => by
              rw [List.append_nil] at hb
              rcases List.mem_append.1 hb with h | h
              · exact lo1 b h
              · exact lo2 b h
            have rowf := own_ext hc.row eW
            have hsz := hc.ext.size
            have hszw := eW.size
            have hof := hc.out.ext eW
            have neo := hc.ne.1
            clear p1 p2 p3 p4 s1 s2 s3 s4 pl lo1 lo2 y0 y1 y2 y3 y4 y5
            go_wp2_with ((with_reducible show wpList _ _ _ (Oper.mk _ (Op.call _) _ _ _ _ :: _) _ _); refine wl_app1s rfl rfl rfl rfl rowf hg7 rfl (by simp [Value.cells, Value.oneCell']) (by unfold maxLen; omega) (by omega) (by omega) ?_; intro g6 c6 w6 own6 gr6 hg6'; have l0 : HB w6 w1.heap.size #[.slice (some ⟨g, 0, none⟩) m c8] 28 := hof.chg (.of_grown gr6) (fun hh => neo _ hh.symm rfl); have l5 := l0.cell 0 rfl; have l6 := l0.froz 0)
            go_roundw
            case rel =>
              obtain ⟨cs', bss', hc'⟩ := hc.push eW (d := (2, d2, d3, ws, bs, ())) o1 o2 own_nil hnd hlo ty own6 gr6 hg6'
              refine ⟨i + 1, m + 1, c6, some ⟨g6, 0, none⟩, cs', bss', by omega, by go_num, ?_⟩
              rw [Hsucc.out, Hc.out]
              exact hc'
            case measure => simp [intOf]; omega
          · have CO := hid (fun W h => by have := CO0.out W h; rw [hon] at this; exact this)
            have Hc := hid (cmp_skip2 (P := P) (d := (2, d2, d3, ws, bs, du)) rfl hon)
            clear hon CO0
            subst hW1
            go_wp2_with (first | ((with_reducible show wpList _ _ _ (Oper.mk _ (Op.indexAddr _ _ _) _ _ _ _ :: Oper.mk _ (Op.load _ _) _ _ _ _ :: _) _ _); refine wl_idxloadE (s := shLayer) (j := i) rfl rfl rfl rfl (fun _ => rfl) rfl rfl rfl hp l3 l5.out hlt hs1 hci ?_; simp only [ofCs, Sh.agg, if_true]) | ((with_reducible show wpList _ _ _ (Oper.mk _ (Op.indexAddr _ _ _) _ _ _ _ :: _) _ _); refine wl_idxE (s := 7) (j := m - 1) rfl rfl rfl rfl (by omega) rfl (by omega) ?_; rw [adr_row, HLx.out]))
            refine (CO.out _ E1).mono ?_
            rintro e w2 ⟨rfl, e2⟩
            have k0 := HB.cell (b5.ext e2) 0 rfl; have k1 := HB.cell (b5.ext e2) 1 rfl; have k2 := HB.cell (b5.ext e2) 2 rfl; have k3 := HB.cell (b5.ext e2) 3 rfl; have k4 := HB.cell (b5.ext e2) 4 rfl; have f0 := HB.cell (hc.out.ext (E1.trans e2)) 0 rfl
            have z0 := (E1.trans e2).cell v0; have z5 := (E1.trans e2).cell v5; have z6 := (E1.trans e2).cell v6
            go_wp2
            go_roundw
            case rel => exact ⟨i + 1, m, c8, (some ⟨g, 0, none⟩), cs, bss, by omega, by go_num, by rw [Hsucc.out, Hc.out]; exact hc.on (E1.trans e2)⟩
            case measure => simp [intOf]; omega
      by_cases hd1 : d1 = 1
      · subst hd1
        by_cases hm0 : m = 0
        · have hP : P = [] := List.eq_nil_of_length_eq_zero (by have := hc.len; omega)
          have hRel : reluB (lastP P) = false := by rw [hP]; rfl
          have hBare : bareB (lastP P) = false := by rw [hP]; rfl
          have hdm : decide ((0 : Int) < (m : Int)) = false := by simp; omega
          have hm1 : m < 1 := by omega
          clear hP Hrd hm0
          have z0 := HB.cell b6 0 rfl; have z5 := HB.cell b6 5 rfl; have z6 := HB.cell b6 6 rfl
          clear CO0
          have Hc := hid (cmp_push1 (P := P) (d := (1, d2, d3, ws, bs, du)) rfl hRel hBare)
          subst hW1
          go_wp2_with ((with_reducible show wpList _ _ _ (Oper.mk _ (Op.indexAddr _ _ _) _ _ _ _ :: Oper.mk _ (Op.load _ _) _ _ _ _ :: _) _ _); refine wl_idxloadE (s := shLayer) (j := i) rfl rfl rfl rfl (fun _ => rfl) rfl rfl rfl hp l3 l5.out hlt hs1 hci ?_; simp only [ofCs, Sh.agg, if_true])
          have eD := E1.trans (Ext.drew _)
          have t5 := HB.ext b5 (Ext.drew _)
          have y0 := HB.cell (hc.out.ext eD) 0 rfl; have y1 := t5.cell 0 rfl; have y2 := t5.cell 1 rfl; have y3 := t5.cell 2 rfl; have y4 := t5.cell 3 rfl; have y5 := t5.cell 4 rfl
          obtain ⟨F, hF⟩ : ∃ F : Option Tmp → World → World → Value → Prop, F = fun d w0 W u => match d with | some 64 => ∃ q k, u = .slice q lw k ∧ IsOwnY [49] w0.heap.size (.sl .flt) W [.slice q lw k] ws | _ => ∃ q k, u = .slice q lb k ∧ IsOwnY [49] w0.heap.size (.sl .flt) W [.slice q lb k] bs := ⟨_, rfl⟩
          have HF := hid hF
          clear hF
          refine wp_region_yt 16 (F := F) (by kernel_rfl) (by kernel_rfl) (by kernel_rfl) (by kernel_rfl) (by kernel_rfl) ?_
          intro wf hwf
          simp only [List.take_succ_cons, List.take_zero, List.drop_succ_cons, List.drop_zero]
          repeat (first
            | (refine x_skip rfl ?_; simp only [Act.put, ev_tmp, List.setIfInBounds_toArray, List.set_cons_succ, List.set_cons_zero, List.getD_cons_succ, List.getD_cons_zero])
            | (refine x_mv rfl rfl rfl ?_; simp only [Act.put, ev_tmp, List.setIfInBounds_toArray, List.set_cons_succ, List.set_cons_zero, List.getD_cons_succ, List.getD_cons_zero])
            | (refine x_as rfl rfl rfl ?_; simp only [Act.put, ev_tmp, List.setIfInBounds_toArray, List.set_cons_succ, List.set_cons_zero, List.getD_cons_succ, List.getD_cons_zero])
            | ((with_reducible show wpX _ _ _ _ _ _ (Oper.mk _ (Op.call _) _ _ _ _ :: _) _); refine y_callK (f := 72) (args := #[.slice pb lb cb]) rfl rfl Try.func72 rfl (by kernel_rfl) ?_ ?_ ?_; (focus (simp [Act.eval]; done)); (focus (intro w1 hw1 hK; exact (by rw [HF.out]; exact (C2.out w1 (eD.trans hw1)).mono fun e w3 h => by obtain ⟨q, k, bs', g1, g2, g3, g4, g5, g6⟩ := retFl_thing3 Hlb.out h; exact ⟨_, g1, g5, q, k, rfl, bs', g2, g3, g4, g6⟩))); rintro u wa wb e0 hK e3 e4 hu; simp only [HF.out] at hu; obtain ⟨qb, kb, rfl, o2⟩ := hu; obtain ⟨v0', v3', f0', f1', f2', f3'⟩ := knownC_call hK (j := 10) (d := 64) (by kernel_rfl) rfl rfl rfl rfl Try.func72 rfl (by kernel_rfl) (by simp); rw [HF.out] at f3'; obtain ⟨qc, kc, hqc, o1⟩ := f3'; have hqd : Value.slice qw lw kw = .slice qc lw kc := hqc; simp only [Value.slice.injEq, true_and] at hqd; obtain ⟨rfl, rfl⟩ := hqd; simp only [Act.put, ev_tmp, List.setIfInBounds_toArray, List.set_cons_succ, List.set_cons_zero, List.getD_cons_succ, List.getD_cons_zero])
            | ((with_reducible show wpX _ _ _ _ _ _ (Oper.mk _ (Op.call _) _ _ _ _ :: _) _); refine y_callK (f := 72) (args := #[.slice pw lw cw]) rfl rfl Try.func72 rfl (by kernel_rfl) ?_ ?_ ?_; (focus (simp [Act.eval]; done)); (focus (intro w1 hw1 hK; exact (by rw [HF.out]; exact (C1.out w1 (eD.trans hw1)).mono fun e w3 h => by obtain ⟨q, k, bs', g1, g2, g3, g4, g5, g6⟩ := retFl_thing3 Hlw.out h; exact ⟨_, g1, g5, q, k, rfl, bs', g2, g3, g4, g6⟩))); rintro u wa wb e0 hK e3 e4 hu; simp only [HF.out] at hu; obtain ⟨qw, kw, rfl, _⟩ := hu; simp only [Act.put, ev_tmp, List.setIfInBounds_toArray, List.set_cons_succ, List.set_cons_zero, List.getD_cons_succ, List.getD_cons_zero])
            | (refine x_build1 (u := .agg #[.int .i64 1, .int .i64 d2, .int .i64 d3, .slice qw lw kw, .slice qb lb kb, .slice none 0 0, .bool false]) rfl rfl rfl rfl ?_; intro g5 hg5 hg6 hg7; simp only [Act.put, ev_tmp, List.setIfInBounds_toArray, List.set_cons_succ, List.set_cons_zero, List.getD_cons_succ, List.getD_cons_zero])
            | (refine x_run rfl fun K hK w1 hw1 => ?_; have k0 := hw1.cell (y0); have k1 := hw1.cell (y1); have k2 := hw1.cell (y2); have k3 := hw1.cell (y3); have k4 := hw1.cell (y4); have k5 := hw1.cell (y5); go_simp; refine hK _ ?_; clear hK K k0 k1 k2 k3 k4 k5 hw1 w1))
          refine x_nil ?_
          have eW := eD.trans hwf
          obtain ⟨bw, p1, p2, p3, p4⟩ := o1
          obtain ⟨bb, s1, s2, s3, s4⟩ := o2
          have q1 := eD.size
          have q2 := f0'.size
          have q3 := f2'.size
          have q4 := e0.size
          have pl := p1.lt
          have lo1 : ∀ b ∈ bw, wr.heap.size ≤ b := fun b hb => by have := p3 b hb; omega
          have lo2 : ∀ b ∈ bb, wr.heap.size ≤ b := fun b hb => by have := s3 b hb; omega
          have o1 := p1.ext ((f2'.trans e3).trans e4)
          have o2 := s1.ext e4
          have ty : Tys wf [49] (bw ++ (bb ++ [])) := by rw [List.append_nil]; exact (p4.ext ((f2'.trans e3).trans e4)).app (s4.ext e4)
          have hnd : (bw ++ (bb ++ [])).Nodup := by rw [List.append_nil]; exact nodup_app p2 s2 (B := wa.heap.size) (fun x hx => by have := pl x hx; omega) (fun x hx => s3 x hx)
          have hlo : ∀ b ∈ bw ++ (bb ++ []), wr.heap.size ≤ b := fun b hb => by
            rw [List.append_nil] at hb
            rcases List.mem_append.1 hb with h | h
            · exact lo1 b h
            · exact lo2 b h
          have rowf := own_ext hc.row eW
          have hsz := hc.ext.size
          have hszw := eW.size
          have hof := hc.out.ext eW
          have neo := hc.ne.1
          clear p1 p2 p3 p4 s1 s2 s3 s4 pl lo1 lo2 y0 y1 y2 y3 y4 y5
          go_wp2_with ((with_reducible show wpList _ _ _ (Oper.mk _ (Op.call _) _ _ _ _ :: _) _ _); refine wl_app1s rfl rfl rfl rfl rowf hg7 rfl (by simp [Value.cells, Value.oneCell']) (by unfold maxLen; omega) (by omega) (by omega) ?_; intro g6 c6 w6 own6 gr6 hg6'; have l0 : HB w6 w1.heap.size #[.slice q m c8] 28 := hof.chg (.of_grown gr6) (fun hh => neo _ hh.symm rfl); have l5 := l0.cell 0 rfl; have l6 := l0.froz 0)
          go_roundw
          case rel =>
            obtain ⟨cs', bss', hc'⟩ := hc.push eW (d := (1, d2, d3, ws, bs, ())) o1 o2 own_nil hnd hlo ty own6 gr6 hg6'
            refine ⟨i + 1, m + 1, c6, some ⟨g6, 0, none⟩, cs', bss', by omega, by go_num, ?_⟩
            rw [Hsucc.out, Hc.out]
            exact hc'
          case measure => simp [intOf]; omega
        have hm : 1 ≤ m := by omega
        obtain ⟨g, qw0, kw0, qb0, kb0, qz, kz, bw0, bb0, bz0, rfl, _, _, _, o3, _, v0, v5, v6⟩ := last_cells hc.grow hc.len hm
        have hrd : (lastP P).2.2.2.2.2.2.1 = true → (lastP P).1 = 0 := Hrd _ (lastP_mem (by have := hc.len; omega))
        have hdm : decide ((0 : Int) < (m : Int)) = true := by simp; omega
        obtain ⟨Lx, hLx⟩ : ∃ Lx, Lx = (m - 1) * 7 := ⟨_, rfl⟩
        rw [← hLx] at v0 v5 v6
        have HLx := hid hLx.symm
        have hRB : reluB (lastP P) = (decide ((lastP P).1 = 1) || decide ((lastP P).1 = 4) || (decide ((lastP P).1 = 0) && (lastP P).2.2.2.2.2.2.1)) := rfl
        have hBB : bareB (lastP P) = (decide ((lastP P).1 = 0) && decide (((lastP P).2.2.2.2.2.1 : List Nat).length = 0) && !(lastP P).2.2.2.2.2.2.1) := rfl
        obtain ⟨_, _, _, hls⟩ := rep_val o3.rep
        unfold maxLen at hls
        clear hLx Hrd hm0 o3
        generalize hsk : (lastP P).1 = sk at v0 hRB hBB hrd
        generalize hlz : ((lastP P).2.2.2.2.2.1 : List Nat).length = lz at v5 hBB hls
        generalize hr : (lastP P).2.2.2.2.2.2.1 = r at v6 hRB hBB hrd
        clear hsk hlz hr
        have z0 := E1.cell v0; have z5 := E1.cell v5; have z6 := E1.cell v6
        by_cases hk0 : sk = 0
        · subst hk0
          cases r
          · by_cases hz : lz = 0
            · subst hz
              have hRel : reluB (lastP P) = false := by rw [hRB]; rfl
              have hBare : bareB (lastP P) = true := by rw [hBB]; rfl
              clear hRB hBB hrd
              clear CO0
              have Hc := hid (cmp_relu (P := P) (d := (1, d2, d3, ws, bs, du)) rfl hRel hBare)
              subst hW1
              have rowx := own_ext hc.row E1
              go_wp2_with (first | ((with_reducible show wpList _ _ _ (Oper.mk _ (Op.indexAddr _ _ _) _ _ _ _ :: Oper.mk _ (Op.load _ _) _ _ _ _ :: _) _ _); refine wl_idxloadE (s := shLayer) (j := i) rfl rfl rfl rfl (fun _ => rfl) rfl rfl rfl hp l3 l5.out hlt hs1 hci ?_; simp only [ofCs, Sh.agg, if_true]) | ((with_reducible show wpList _ _ _ (Oper.mk _ (Op.indexAddr _ _ _) _ _ _ _ :: _) _ _); refine wl_idxE (s := 7) (j := m - 1) rfl rfl rfl rfl (by omega) rfl (by omega) ?_; rw [adr_row, HLx.out]) | ((with_reducible show wpList _ _ _ (Oper.mk _ (Op.store _ _ _) _ _ _ _ :: _) _ _); refine wl_stRC (i := Lx + 6) rfl rfl rfl rfl rfl rowx (by have := HLx.out; omega) ?_; intro w9 own9 gr9))
              go_roundw
              case rel =>
                rw [← HLx.out] at own9
                obtain ⟨cs', hc'⟩ := hc.relu E1 hm own9 gr9
                refine ⟨i + 1, m, c8, some ⟨g, 0, none⟩, cs', bss, by omega, by go_num, ?_⟩
                rw [Hsucc.out, Hc.out, hc.len]
                exact hc'
              case measure => simp [intOf]; omega
            · have hRel : reluB (lastP P) = false := by rw [hRB]; rfl
              have hBare : bareB (lastP P) = false := by rw [hBB, decide_eq_false hz]; rfl
              have Qz := beq_f (show ¬ (lz : Int) = 0 by omega)
              clear hRB hBB hrd
              clear CO0
              have Hc := hid (cmp_push1 (P := P) (d := (1, d2, d3, ws, bs, du)) rfl hRel hBare)
              subst hW1
              go_wp2_with (first | ((with_reducible show wpList _ _ _ (Oper.mk _ (Op.indexAddr _ _ _) _ _ _ _ :: Oper.mk _ (Op.load _ _) _ _ _ _ :: _) _ _); refine wl_idxloadE (s := shLayer) (j := i) rfl rfl rfl rfl (fun _ => rfl) rfl rfl rfl hp l3 l5.out hlt hs1 hci ?_; simp only [ofCs, Sh.agg, if_true]) | ((with_reducible show wpList _ _ _ (Oper.mk _ (Op.indexAddr _ _ _) _ _ _ _ :: _) _ _); refine wl_idxE (s := 7) (j := m - 1) rfl rfl rfl rfl (by omega) rfl (by omega) ?_; rw [adr_row, HLx.out]))
              have eD := E1.trans (Ext.drew _)
              have t5 := HB.ext b5 (Ext.drew _)
              have y0 := HB.cell (hc.out.ext eD) 0 rfl; have y1 := t5.cell 0 rfl; have y2 := t5.cell 1 rfl; have y3 := t5.cell 2 rfl; have y4 := t5.cell 3 rfl; have y5 := t5.cell 4 rfl
              obtain ⟨F, hF⟩ : ∃ F : Option Tmp → World → World → Value → Prop, F = fun d w0 W u => match d with | some 64 => ∃ q k, u = .slice q lw k ∧ IsOwnY [49] w0.heap.size (.sl .flt) W [.slice q lw k] ws | _ => ∃ q k, u = .slice q lb k ∧ IsOwnY [49] w0.heap.size (.sl .flt) W [.slice q lb k] bs := ⟨_, rfl⟩
              have HF := hid hF
              clear hF
              refine wp_region_yt 16 (F := F) (by kernel_rfl) (by kernel_rfl) (by kernel_rfl) (by kernel_rfl) (by kernel_rfl) ?_
              intro wf hwf
              simp only [List.take_succ_cons, List.take_zero, List.drop_succ_cons, List.drop_zero]
              repeat (first
                | (refine x_skip rfl ?_; simp only [Act.put, ev_tmp, List.setIfInBounds_toArray, List.set_cons_succ, List.set_cons_zero, List.getD_cons_succ, List.getD_cons_zero])
                | (refine x_mv rfl rfl rfl ?_; simp only [Act.put, ev_tmp, List.setIfInBounds_toArray, List.set_cons_succ, List.set_cons_zero, List.getD_cons_succ, List.getD_cons_zero])
                | (refine x_as rfl rfl rfl ?_; simp only [Act.put, ev_tmp, List.setIfInBounds_toArray, List.set_cons_succ, List.set_cons_zero, List.getD_cons_succ, List.getD_cons_zero])
                | ((with_reducible show wpX _ _ _ _ _ _ (Oper.mk _ (Op.call _) _ _ _ _ :: _) _); refine y_callK (f := 72) (args := #[.slice pb lb cb]) rfl rfl Try.func72 rfl (by kernel_rfl) ?_ ?_ ?_; (focus (simp [Act.eval]; done)); (focus (intro w1 hw1 hK; exact (by rw [HF.out]; exact (C2.out w1 (eD.trans hw1)).mono fun e w3 h => by obtain ⟨q, k, bs', g1, g2, g3, g4, g5, g6⟩ := retFl_thing3 Hlb.out h; exact ⟨_, g1, g5, q, k, rfl, bs', g2, g3, g4, g6⟩))); rintro u wa wb e0 hK e3 e4 hu; simp only [HF.out] at hu; obtain ⟨qb, kb, rfl, o2⟩ := hu; obtain ⟨v0', v3', f0', f1', f2', f3'⟩ := knownC_call hK (j := 10) (d := 64) (by kernel_rfl) rfl rfl rfl rfl Try.func72 rfl (by kernel_rfl) (by simp); rw [HF.out] at f3'; obtain ⟨qc, kc, hqc, o1⟩ := f3'; have hqd : Value.slice qw lw kw = .slice qc lw kc := hqc; simp only [Value.slice.injEq, true_and] at hqd; obtain ⟨rfl, rfl⟩ := hqd; simp only [Act.put, ev_tmp, List.setIfInBounds_toArray, List.set_cons_succ, List.set_cons_zero, List.getD_cons_succ, List.getD_cons_zero])
                | ((with_reducible show wpX _ _ _ _ _ _ (Oper.mk _ (Op.call _) _ _ _ _ :: _) _); refine y_callK (f := 72) (args := #[.slice pw lw cw]) rfl rfl Try.func72 rfl (by kernel_rfl) ?_ ?_ ?_; (focus (simp [Act.eval]; done)); (focus (intro w1 hw1 hK; exact (by rw [HF.out]; exact (C1.out w1 (eD.trans hw1)).mono fun e w3 h => by obtain ⟨q, k, bs', g1, g2, g3, g4, g5, g6⟩ := retFl_thing3 Hlw.out h; exact ⟨_, g1, g5, q, k, rfl, bs', g2, g3, g4, g6⟩))); rintro u wa wb e0 hK e3 e4 hu; simp only [HF.out] at hu; obtain ⟨qw, kw, rfl, _⟩ := hu; simp only [Act.put, ev_tmp, List.setIfInBounds_toArray, List.set_cons_succ, List.set_cons_zero, List.getD_cons_succ, List.getD_cons_zero])
                | (refine x_build1 (u := .agg #[.int .i64 1, .int .i64 d2, .int .i64 d3, .slice qw lw kw, .slice qb lb kb, .slice none 0 0, .bool false]) rfl rfl rfl rfl ?_; intro g5 hg5 hg6 hg7; simp only [Act.put, ev_tmp, List.setIfInBounds_toArray, List.set_cons_succ, List.set_cons_zero, List.getD_cons_succ, List.getD_cons_zero])
                | (refine x_run rfl fun K hK w1 hw1 => ?_; have k0 := hw1.cell (y0); have k1 := hw1.cell (y1); have k2 := hw1.cell (y2); have k3 := hw1.cell (y3); have k4 := hw1.cell (y4); have k5 := hw1.cell (y5); go_simp; refine hK _ ?_; clear hK K k0 k1 k2 k3 k4 k5 hw1 w1))
              refine x_nil ?_
              have eW := eD.trans hwf
              obtain ⟨bw, p1, p2, p3, p4⟩ := o1
              obtain ⟨bb, s1, s2, s3, s4⟩ := o2
              have q1 := eD.size
              have q2 := f0'.size
              have q3 := f2'.size
              have q4 := e0.size
              have pl := p1.lt
              have lo1 : ∀ b ∈ bw, wr.heap.size ≤ b := fun b hb => by have := p3 b hb; omega
              have lo2 : ∀ b ∈ bb, wr.heap.size ≤ b := fun b hb => by have := s3 b hb; omega
              have o1 := p1.ext ((f2'.trans e3).trans e4)
              have o2 := s1.ext e4
              have ty : Tys wf [49] (bw ++ (bb ++ [])) := by rw [List.append_nil]; exact (p4.ext ((f2'.trans e3).trans e4)).app (s4.ext e4)
              have hnd : (bw ++ (bb ++ [])).Nodup := by rw [List.append_nil]; exact nodup_app p2 s2 (B := wa.heap.size) (fun x hx => by have := pl x hx; omega) (fun x hx => s3 x hx)
              have hlo : ∀ b ∈ bw ++ (bb ++ []), wr.heap.size ≤ b := fun b hb => by
                rw [List.append_nil] at hb
                rcases List.mem_append.1 hb with h | h
                · exact lo1 b h
                · exact lo2 b h
              have rowf := own_ext hc.row eW
              have hsz := hc.ext.size
              have hszw := eW.size
              have hof := hc.out.ext eW
              have neo := hc.ne.1
              clear p1 p2 p3 p4 s1 s2 s3 s4 pl lo1 lo2 y0 y1 y2 y3 y4 y5
              go_wp2_with ((with_reducible show wpList _ _ _ (Oper.mk _ (Op.call _) _ _ _ _ :: _) _ _); refine wl_app1s rfl rfl rfl rfl rowf hg7 rfl (by simp [Value.cells, Value.oneCell']) (by unfold maxLen; omega) (by omega) (by omega) ?_; intro g6 c6 w6 own6 gr6 hg6'; have l0 : HB w6 w1.heap.size #[.slice (some ⟨g, 0, none⟩) m c8] 28 := hof.chg (.of_grown gr6) (fun hh => neo _ hh.symm rfl); have l5 := l0.cell 0 rfl; have l6 := l0.froz 0)
              go_roundw
              case rel =>
                obtain ⟨cs', bss', hc'⟩ := hc.push eW (d := (1, d2, d3, ws, bs, ())) o1 o2 own_nil hnd hlo ty own6 gr6 hg6'
                refine ⟨i + 1, m + 1, c6, some ⟨g6, 0, none⟩, cs', bss', by omega, by go_num, ?_⟩
                rw [Hsucc.out, Hc.out]
                exact hc'
              case measure => simp [intOf]; omega
          · have hRel : reluB (lastP P) = true := by rw [hRB]; rfl
            clear hRB hBB hrd
            by_cases hz : lz = 0
            · subst hz
              clear CO0
              have Hc := hid (cmp_skip1 (P := P) (d := (1, d2, d3, ws, bs, du)) rfl hRel)
              subst hW1
              go_wp2_with (first | ((with_reducible show wpList _ _ _ (Oper.mk _ (Op.indexAddr _ _ _) _ _ _ _ :: Oper.mk _ (Op.load _ _) _ _ _ _ :: _) _ _); refine wl_idxloadE (s := shLayer) (j := i) rfl rfl rfl rfl (fun _ => rfl) rfl rfl rfl hp l3 l5.out hlt hs1 hci ?_; simp only [ofCs, Sh.agg, if_true]) | ((with_reducible show wpList _ _ _ (Oper.mk _ (Op.indexAddr _ _ _) _ _ _ _ :: _) _ _); refine wl_idxE (s := 7) (j := m - 1) rfl rfl rfl rfl (by omega) rfl (by omega) ?_; rw [adr_row, HLx.out]))
              go_roundw
              case rel => exact ⟨i + 1, m, c8, (some ⟨g, 0, none⟩), cs, bss, by omega, by go_num, by rw [Hsucc.out, Hc.out]; exact hc.on E1⟩
              case measure => simp [intOf]; omega
            · have Qz := beq_f (show ¬ (lz : Int) = 0 by omega)
              clear CO0
              have Hc := hid (cmp_skip1 (P := P) (d := (1, d2, d3, ws, bs, du)) rfl hRel)
              subst hW1
              go_wp2_with (first | ((with_reducible show wpList _ _ _ (Oper.mk _ (Op.indexAddr _ _ _) _ _ _ _ :: Oper.mk _ (Op.load _ _) _ _ _ _ :: _) _ _); refine wl_idxloadE (s := shLayer) (j := i) rfl rfl rfl rfl (fun _ => rfl) rfl rfl rfl hp l3 l5.out hlt hs1 hci ?_; simp only [ofCs, Sh.agg, if_true]) | ((with_reducible show wpList _ _ _ (Oper.mk _ (Op.indexAddr _ _ _) _ _ _ _ :: _) _ _); refine wl_idxE (s := 7) (j := m - 1) rfl rfl rfl rfl (by omega) rfl (by omega) ?_; rw [adr_row, HLx.out]))
              go_roundw
              case rel => exact ⟨i + 1, m, c8, (some ⟨g, 0, none⟩), cs, bss, by omega, by go_num, by rw [Hsucc.out, Hc.out]; exact hc.on E1⟩
              case measure => simp [intOf]; omega
        · have hr0 : r = false := by cases r; rfl; exact absurd (hrd rfl) hk0
          subst hr0
          have Q0 := beq_f hk0
          by_cases hk1 : sk = 1
          · subst hk1
            have hRel : reluB (lastP P) = true := by rw [hRB]; rfl
            clear hRB hBB hrd
            clear CO0
            have Hc := hid (cmp_skip1 (P := P) (d := (1, d2, d3, ws, bs, du)) rfl hRel)
            subst hW1
            go_wp2_with (first | ((with_reducible show wpList _ _ _ (Oper.mk _ (Op.indexAddr _ _ _) _ _ _ _ :: Oper.mk _ (Op.load _ _) _ _ _ _ :: _) _ _); refine wl_idxloadE (s := shLayer) (j := i) rfl rfl rfl rfl (fun _ => rfl) rfl rfl rfl hp l3 l5.out hlt hs1 hci ?_; simp only [ofCs, Sh.agg, if_true]) | ((with_reducible show wpList _ _ _ (Oper.mk _ (Op.indexAddr _ _ _) _ _ _ _ :: _) _ _); refine wl_idxE (s := 7) (j := m - 1) rfl rfl rfl rfl (by omega) rfl (by omega) ?_; rw [adr_row, HLx.out]))
            go_roundw
            case rel => exact ⟨i + 1, m, c8, (some ⟨g, 0, none⟩), cs, bss, by omega, by go_num, by rw [Hsucc.out, Hc.out]; exact hc.on E1⟩
            case measure => simp [intOf]; omega
          · have Q1k := beq_f hk1
            by_cases hk4 : sk = 4
            · subst hk4
              have hRel : reluB (lastP P) = true := by rw [hRB]; rfl
              clear hRB hBB hrd
              clear CO0
              have Hc := hid (cmp_skip1 (P := P) (d := (1, d2, d3, ws, bs, du)) rfl hRel)
              subst hW1
              go_wp2_with (first | ((with_reducible show wpList _ _ _ (Oper.mk _ (Op.indexAddr _ _ _) _ _ _ _ :: Oper.mk _ (Op.load _ _) _ _ _ _ :: _) _ _); refine wl_idxloadE (s := shLayer) (j := i) rfl rfl rfl rfl (fun _ => rfl) rfl rfl rfl hp l3 l5.out hlt hs1 hci ?_; simp only [ofCs, Sh.agg, if_true]) | ((with_reducible show wpList _ _ _ (Oper.mk _ (Op.indexAddr _ _ _) _ _ _ _ :: _) _ _); refine wl_idxE (s := 7) (j := m - 1) rfl rfl rfl rfl (by omega) rfl (by omega) ?_; rw [adr_row, HLx.out]))
              go_roundw
              case rel => exact ⟨i + 1, m, c8, (some ⟨g, 0, none⟩), cs, bss, by omega, by go_num, by rw [Hsucc.out, Hc.out]; exact hc.on E1⟩
              case measure => simp [intOf]; omega
            · have Q4k := beq_f hk4
              have hRel : reluB (lastP P) = false := by rw [hRB, decide_eq_false hk0, decide_eq_false hk1, decide_eq_false hk4]; rfl
              have hBare : bareB (lastP P) = false := by rw [hBB, decide_eq_false hk0]; rfl
              clear hRB hBB hrd
              clear CO0
              have Hc := hid (cmp_push1 (P := P) (d := (1, d2, d3, ws, bs, du)) rfl hRel hBare)
              subst hW1
              go_wp2_with (first | ((with_reducible show wpList _ _ _ (Oper.mk _ (Op.indexAddr _ _ _) _ _ _ _ :: Oper.mk _ (Op.load _ _) _ _ _ _ :: _) _ _); refine wl_idxloadE (s := shLayer) (j := i) rfl rfl rfl rfl (fun _ => rfl) rfl rfl rfl hp l3 l5.out hlt hs1 hci ?_; simp only [ofCs, Sh.agg, if_true]) | ((with_reducible show wpList _ _ _ (Oper.mk _ (Op.indexAddr _ _ _) _ _ _ _ :: _) _ _); refine wl_idxE (s := 7) (j := m - 1) rfl rfl rfl rfl (by omega) rfl (by omega) ?_; rw [adr_row, HLx.out]))
              have eD := E1.trans (Ext.drew _)
              have t5 := HB.ext b5 (Ext.drew _)
              have y0 := HB.cell (hc.out.ext eD) 0 rfl; have y1 := t5.cell 0 rfl; have y2 := t5.cell 1 rfl; have y3 := t5.cell 2 rfl; have y4 := t5.cell 3 rfl; have y5 := t5.cell 4 rfl
              obtain ⟨F, hF⟩ : ∃ F : Option Tmp → World → World → Value → Prop, F = fun d w0 W u => match d with | some 64 => ∃ q k, u = .slice q lw k ∧ IsOwnY [49] w0.heap.size (.sl .flt) W [.slice q lw k] ws | _ => ∃ q k, u = .slice q lb k ∧ IsOwnY [49] w0.heap.size (.sl .flt) W [.slice q lb k] bs := ⟨_, rfl⟩
              have HF := hid hF
              clear hF
              refine wp_region_yt 16 (F := F) (by kernel_rfl) (by kernel_rfl) (by kernel_rfl) (by kernel_rfl) (by kernel_rfl) ?_
              intro wf hwf
              simp only [List.take_succ_cons, List.take_zero, List.drop_succ_cons, List.drop_zero]
              repeat (first
                | (refine x_skip rfl ?_; simp only [Act.put, ev_tmp, List.setIfInBounds_toArray, List.set_cons_succ, List.set_cons_zero, List.getD_cons_succ, List.getD_cons_zero])
                | (refine x_mv rfl rfl rfl ?_; simp only [Act.put, ev_tmp, List.setIfInBounds_toArray, List.set_cons_succ, List.set_cons_zero, List.getD_cons_succ, List.getD_cons_zero])
                | (refine x_as rfl rfl rfl ?_; simp only [Act.put, ev_tmp, List.setIfInBounds_toArray, List.set_cons_succ, List.set_cons_zero, List.getD_cons_succ, List.getD_cons_zero])
                | ((with_reducible show wpX _ _ _ _ _ _ (Oper.mk _ (Op.call _) _ _ _ _ :: _) _); refine y_callK (f := 72) (args := #[.slice pb lb cb]) rfl rfl Try.func72 rfl (by kernel_rfl) ?_ ?_ ?_; (focus (simp [Act.eval]; done)); (focus (intro w1 hw1 hK; exact (by rw [HF.out]; exact (C2.out w1 (eD.trans hw1)).mono fun e w3 h => by obtain ⟨q, k, bs', g1, g2, g3, g4, g5, g6⟩ := retFl_thing3 Hlb.out h; exact ⟨_, g1, g5, q, k, rfl, bs', g2, g3, g4, g6⟩))); rintro u wa wb e0 hK e3 e4 hu; simp only [HF.out] at hu; obtain ⟨qb, kb, rfl, o2⟩ := hu; obtain ⟨v0', v3', f0', f1', f2', f3'⟩ := knownC_call hK (j := 10) (d := 64) (by kernel_rfl) rfl rfl rfl rfl Try.func72 rfl (by kernel_rfl) (by simp); rw [HF.out] at f3'; obtain ⟨qc, kc, hqc, o1⟩ := f3'; have hqd : Value.slice qw lw kw = .slice qc lw kc := hqc; simp only [Value.slice.injEq, true_and] at hqd; obtain ⟨rfl, rfl⟩ := hqd; simp only [Act.put, ev_tmp, List.setIfInBounds_toArray, List.set_cons_succ, List.set_cons_zero, List.getD_cons_succ, List.getD_cons_zero])
                | ((with_reducible show wpX _ _ _ _ _ _ (Oper.mk _ (Op.call _) _ _ _ _ :: _) _); refine y_callK (f := 72) (args := #[.slice pw lw cw]) rfl rfl Try.func72 rfl (by kernel_rfl) ?_ ?_ ?_; (focus (simp [Act.eval]; done)); (focus (intro w1 hw1 hK; exact (by rw [HF.out]; exact (C1.out w1 (eD.trans hw1)).mono fun e w3 h => by obtain ⟨q, k, bs', g1, g2, g3, g4, g5, g6⟩ := retFl_thing3 Hlw.out h; exact ⟨_, g1, g5, q, k, rfl, bs', g2, g3, g4, g6⟩))); rintro u wa wb e0 hK e3 e4 hu; simp only [HF.out] at hu; obtain ⟨qw, kw, rfl, _⟩ := hu; simp only [Act.put, ev_tmp, List.setIfInBounds_toArray, List.set_cons_succ, List.set_cons_zero, List.getD_cons_succ, List.getD_cons_zero])
                | (refine x_build1 (u := .agg #[.int .i64 1, .int .i64 d2, .int .i64 d3, .slice qw lw kw, .slice qb lb kb, .slice none 0 0, .bool false]) rfl rfl rfl rfl ?_; intro g5 hg5 hg6 hg7; simp only [Act.put, ev_tmp, List.setIfInBounds_toArray, List.set_cons_succ, List.set_cons_zero, List.getD_cons_succ, List.getD_cons_zero])
                | (refine x_run rfl fun K hK w1 hw1 => ?_; have k0 := hw1.cell (y0); have k1 := hw1.cell (y1); have k2 := hw1.cell (y2); have k3 := hw1.cell (y3); have k4 := hw1.cell (y4); have k5 := hw1.cell (y5); go_simp; refine hK _ ?_; clear hK K k0 k1 k2 k3 k4 k5 hw1 w1))
              refine x_nil ?_
              have eW := eD.trans hwf
              obtain ⟨bw, p1, p2, p3, p4⟩ := o1
              obtain ⟨bb, s1, s2, s3, s4⟩ := o2
              have q1 := eD.size
              have q2 := f0'.size
              have q3 := f2'.size
              have q4 := e0.size
              have pl := p1.lt
              have lo1 : ∀ b ∈ bw, wr.heap.size ≤ b := fun b hb => by have := p3 b hb; omega
              have lo2 : ∀ b ∈ bb, wr.heap.size ≤ b := fun b hb => by have := s3 b hb; omega
              have o1 := p1.ext ((f2'.trans e3).trans e4)
              have o2 := s1.ext e4
              have ty : Tys wf [49] (bw ++ (bb ++ [])) := by rw [List.append_nil]; exact (p4.ext ((f2'.trans e3).trans e4)).app (s4.ext e4)
              have hnd : (bw ++ (bb ++ [])).Nodup := by rw [List.append_nil]; exact nodup_app p2 s2 (B := wa.heap.size) (fun x hx => by have := pl x hx; omega) (fun x hx => s3 x hx)
              have hlo : ∀ b ∈ bw ++ (bb ++ []), wr.heap.size ≤ b := fun b hb => by
                rw [List.append_nil] at hb
                rcases List.mem_append.1 hb with h | h
                · exact lo1 b h
                · exact lo2 b h
              have rowf := own_ext hc.row eW
              have hsz := hc.ext.size
              have hszw := eW.size
              have hof := hc.out.ext eW
              have neo := hc.ne.1
              clear p1 p2 p3 p4 s1 s2 s3 s4 pl lo1 lo2 y0 y1 y2 y3 y4 y5
              go_wp2_with ((with_reducible show wpList _ _ _ (Oper.mk _ (Op.call _) _ _ _ _ :: _) _ _); refine wl_app1s rfl rfl rfl rfl rowf hg7 rfl (by simp [Value.cells, Value.oneCell']) (by unfold maxLen; omega) (by omega) (by omega) ?_; intro g6 c6 w6 own6 gr6 hg6'; have l0 : HB w6 w1.heap.size #[.slice (some ⟨g, 0, none⟩) m c8] 28 := hof.chg (.of_grown gr6) (fun hh => neo _ hh.symm rfl); have l5 := l0.cell 0 rfl; have l6 := l0.froz 0)
              go_roundw
              case rel =>
                obtain ⟨cs', bss', hc'⟩ := hc.push eW (d := (1, d2, d3, ws, bs, ())) o1 o2 own_nil hnd hlo ty own6 gr6 hg6'
                refine ⟨i + 1, m + 1, c6, some ⟨g6, 0, none⟩, cs', bss', by omega, by go_num, ?_⟩
                rw [Hsucc.out, Hc.out]
                exact hc'
              case measure => simp [intOf]; omega
      by_cases hm0 : m = 0
      · have hP : P = [] := List.eq_nil_of_length_eq_zero (by have := hc.len; omega)
        have hRel : reluB (lastP P) = false := by rw [hP]; rfl
        have hBare : bareB (lastP P) = false := by rw [hP]; rfl
        have hdm : decide ((0 : Int) < (m : Int)) = false := by simp; omega
        have hm1 : m < 1 := by omega
        clear hP Hrd hm0
        have z0 := HB.cell b6 0 rfl; have z5 := HB.cell b6 5 rfl; have z6 := HB.cell b6 6 rfl
        clear CO0
        have Hc := hid (cmp_push0 (P := P) (d := (d1, d2, d3, ws, bs, du)) hd1 hd2)
        have Q1 := beq_f hd1
        have Q2 := beq_f hd2
        subst hW1
        go_wp2_with ((with_reducible show wpList _ _ _ (Oper.mk _ (Op.indexAddr _ _ _) _ _ _ _ :: Oper.mk _ (Op.load _ _) _ _ _ _ :: _) _ _); refine wl_idxloadE (s := shLayer) (j := i) rfl rfl rfl rfl (fun _ => rfl) rfl rfl rfl hp l3 l5.out hlt hs1 hci ?_; simp only [ofCs, Sh.agg, if_true])
        have eD := E1.trans (Ext.drew _)
        have t5 := HB.ext b5 (Ext.drew _)
        have y0 := HB.cell (hc.out.ext eD) 0 rfl; have y1 := t5.cell 0 rfl; have y2 := t5.cell 1 rfl; have y3 := t5.cell 2 rfl; have y4 := t5.cell 3 rfl; have y5 := t5.cell 4 rfl
        obtain ⟨F, hF⟩ : ∃ F : Option Tmp → World → World → Value → Prop, F = fun d w0 W u => match d with | some 64 => ∃ q k, u = .slice q lw k ∧ IsOwnY [49] w0.heap.size (.sl .flt) W [.slice q lw k] ws | _ => ∃ q k, u = .slice q lb k ∧ IsOwnY [49] w0.heap.size (.sl .flt) W [.slice q lb k] bs := ⟨_, rfl⟩
        have HF := hid hF
        clear hF
        refine wp_region_yt 16 (F := F) (by kernel_rfl) (by kernel_rfl) (by kernel_rfl) (by kernel_rfl) (by kernel_rfl) ?_
        intro wf hwf
        simp only [List.take_succ_cons, List.take_zero, List.drop_succ_cons, List.drop_zero]
        repeat (first
          | (refine x_skip rfl ?_; simp only [Act.put, ev_tmp, List.setIfInBounds_toArray, List.set_cons_succ, List.set_cons_zero, List.getD_cons_succ, List.getD_cons_zero])
          | (refine x_mv rfl rfl rfl ?_; simp only [Act.put, ev_tmp, List.setIfInBounds_toArray, List.set_cons_succ, List.set_cons_zero, List.getD_cons_succ, List.getD_cons_zero])
          | (refine x_as rfl rfl rfl ?_; simp only [Act.put, ev_tmp, List.setIfInBounds_toArray, List.set_cons_succ, List.set_cons_zero, List.getD_cons_succ, List.getD_cons_zero])
          | ((with_reducible show wpX _ _ _ _ _ _ (Oper.mk _ (Op.call _) _ _ _ _ :: _) _); refine y_callK (f := 72) (args := #[.slice pb lb cb]) rfl rfl Try.func72 rfl (by kernel_rfl) ?_ ?_ ?_; (focus (simp [Act.eval]; done)); (focus (intro w1 hw1 hK; exact (by rw [HF.out]; exact (C2.out w1 (eD.trans hw1)).mono fun e w3 h => by obtain ⟨q, k, bs', g1, g2, g3, g4, g5, g6⟩ := retFl_thing3 Hlb.out h; exact ⟨_, g1, g5, q, k, rfl, bs', g2, g3, g4, g6⟩))); rintro u wa wb e0 hK e3 e4 hu; simp only [HF.out] at hu; obtain ⟨qb, kb, rfl, o2⟩ := hu; obtain ⟨v0', v3', f0', f1', f2', f3'⟩ := knownC_call hK (j := 10) (d := 64) (by kernel_rfl) rfl rfl rfl rfl Try.func72 rfl (by kernel_rfl) (by simp); rw [HF.out] at f3'; obtain ⟨qc, kc, hqc, o1⟩ := f3'; have hqd : Value.slice qw lw kw = .slice qc lw kc := hqc; simp only [Value.slice.injEq, true_and] at hqd; obtain ⟨rfl, rfl⟩ := hqd; simp only [Act.put, ev_tmp, List.setIfInBounds_toArray, List.set_cons_succ, List.set_cons_zero, List.getD_cons_succ, List.getD_cons_zero])
          | ((with_reducible show wpX _ _ _ _ _ _ (Oper.mk _ (Op.call _) _ _ _ _ :: _) _); refine y_callK (f := 72) (args := #[.slice pw lw cw]) rfl rfl Try.func72 rfl (by kernel_rfl) ?_ ?_ ?_; (focus (simp [Act.eval]; done)); (focus (intro w1 hw1 hK; exact (by rw [HF.out]; exact (C1.out w1 (eD.trans hw1)).mono fun e w3 h => by obtain ⟨q, k, bs', g1, g2, g3, g4, g5, g6⟩ := retFl_thing3 Hlw.out h; exact ⟨_, g1, g5, q, k, rfl, bs', g2, g3, g4, g6⟩))); rintro u wa wb e0 hK e3 e4 hu; simp only [HF.out] at hu; obtain ⟨qw, kw, rfl, _⟩ := hu; simp only [Act.put, ev_tmp, List.setIfInBounds_toArray, List.set_cons_succ, List.set_cons_zero, List.getD_cons_succ, List.getD_cons_zero])
          | (refine x_build1 (u := .agg #[.int .i64 d1, .int .i64 d2, .int .i64 d3, .slice qw lw kw, .slice qb lb kb, .slice none 0 0, .bool false]) rfl rfl rfl rfl ?_; intro g5 hg5 hg6 hg7; simp only [Act.put, ev_tmp, List.setIfInBounds_toArray, List.set_cons_succ, List.set_cons_zero, List.getD_cons_succ, List.getD_cons_zero])
          | (refine x_run rfl fun K hK w1 hw1 => ?_; have k0 := hw1.cell (y0); have k1 := hw1.cell (y1); have k2 := hw1.cell (y2); have k3 := hw1.cell (y3); have k4 := hw1.cell (y4); have k5 := hw1.cell (y5); go_simp; refine hK _ ?_; clear hK K k0 k1 k2 k3 k4 k5 hw1 w1))
        refine x_nil ?_
        have eW := eD.trans hwf
        obtain ⟨bw, p1, p2, p3, p4⟩ := o1
        obtain ⟨bb, s1, s2, s3, s4⟩ := o2
        have q1 := eD.size
        have q2 := f0'.size
        have q3 := f2'.size
        have q4 := e0.size
        have pl := p1.lt
        have lo1 : ∀ b ∈ bw, wr.heap.size ≤ b := fun b hb => by have := p3 b hb; omega
        have lo2 : ∀ b ∈ bb, wr.heap.size ≤ b := fun b hb => by have := s3 b hb; omega
        have o1 := p1.ext ((f2'.trans e3).trans e4)
        have o2 := s1.ext e4
        have ty : Tys wf [49] (bw ++ (bb ++ [])) := by rw [List.append_nil]; exact (p4.ext ((f2'.trans e3).trans e4)).app (s4.ext e4)
        have hnd : (bw ++ (bb ++ [])).Nodup := by rw [List.append_nil]; exact nodup_app p2 s2 (B := wa.heap.size) (fun x hx => by have := pl x hx; omega) (fun x hx => s3 x hx)
        have hlo : ∀ b ∈ bw ++ (bb ++ []), wr.heap.size ≤ b := fun b hb => by
          rw [List.append_nil] at hb
          rcases List.mem_append.1 hb with h | h
          · exact lo1 b h
          · exact lo2 b h
        have rowf := own_ext hc.row eW
        have hsz := hc.ext.size
        have hszw := eW.size
        have hof := hc.out.ext eW
        have neo := hc.ne.1
        clear p1 p2 p3 p4 s1 s2 s3 s4 pl lo1 lo2 y0 y1 y2 y3 y4 y5
        go_wp2_with ((with_reducible show wpList _ _ _ (Oper.mk _ (Op.call _) _ _ _ _ :: _) _ _); refine wl_app1s rfl rfl rfl rfl rowf hg7 rfl (by simp [Value.cells, Value.oneCell']) (by unfold maxLen; omega) (by omega) (by omega) ?_; intro g6 c6 w6 own6 gr6 hg6'; have l0 : HB w6 w1.heap.size #[.slice q m c8] 28 := hof.chg (.of_grown gr6) (fun hh => neo _ hh.symm rfl); have l5 := l0.cell 0 rfl; have l6 := l0.froz 0)
        go_roundw
        case rel =>
          obtain ⟨cs', bss', hc'⟩ := hc.push eW (d := (d1, d2, d3, ws, bs, ())) o1 o2 own_nil hnd hlo ty own6 gr6 hg6'
          refine ⟨i + 1, m + 1, c6, some ⟨g6, 0, none⟩, cs', bss', by omega, by go_num, ?_⟩
          rw [Hsucc.out, Hc.out]
          exact hc'
        case measure => simp [intOf]; omega
      have hm : 1 ≤ m := by omega
      obtain ⟨g, qw0, kw0, qb0, kb0, qz, kz, bw0, bb0, bz0, rfl, _, _, _, o3, _, v0, v5, v6⟩ := last_cells hc.grow hc.len hm
      have hrd : (lastP P).2.2.2.2.2.2.1 = true → (lastP P).1 = 0 := Hrd _ (lastP_mem (by have := hc.len; omega))
      have hdm : decide ((0 : Int) < (m : Int)) = true := by simp; omega
      obtain ⟨Lx, hLx⟩ : ∃ Lx, Lx = (m - 1) * 7 := ⟨_, rfl⟩
      rw [← hLx] at v0 v5 v6
      have HLx := hid hLx.symm
      have hRB : reluB (lastP P) = (decide ((lastP P).1 = 1) || decide ((lastP P).1 = 4) || (decide ((lastP P).1 = 0) && (lastP P).2.2.2.2.2.2.1)) := rfl
      have hBB : bareB (lastP P) = (decide ((lastP P).1 = 0) && decide (((lastP P).2.2.2.2.2.1 : List Nat).length = 0) && !(lastP P).2.2.2.2.2.2.1) := rfl
      obtain ⟨_, _, _, hls⟩ := rep_val o3.rep
      unfold maxLen at hls
      clear hLx Hrd hm0 o3
      generalize hsk : (lastP P).1 = sk at v0 hRB hBB hrd
      generalize hlz : ((lastP P).2.2.2.2.2.1 : List Nat).length = lz at v5 hBB hls
      generalize hr : (lastP P).2.2.2.2.2.2.1 = r at v6 hRB hBB hrd
      clear hsk hlz hr
      have z0 := E1.cell v0; have z5 := E1.cell v5; have z6 := E1.cell v6
      clear hRB hrd
      by_cases hk0 : sk = 0
      · subst hk0
        by_cases hz : lz = 0
        · subst hz
          cases r
          · have hBare : bareB (lastP P) = true := by rw [hBB]; rfl
            clear hBB
            clear CO0
            have Hc := hid (cmp_push0 (P := P) (d := (d1, d2, d3, ws, bs, du)) hd1 hd2)
            have Q1 := beq_f hd1
            have Q2 := beq_f hd2
            subst hW1
            go_wp2_with (first | ((with_reducible show wpList _ _ _ (Oper.mk _ (Op.indexAddr _ _ _) _ _ _ _ :: Oper.mk _ (Op.load _ _) _ _ _ _ :: _) _ _); refine wl_idxloadE (s := shLayer) (j := i) rfl rfl rfl rfl (fun _ => rfl) rfl rfl rfl hp l3 l5.out hlt hs1 hci ?_; simp only [ofCs, Sh.agg, if_true]) | ((with_reducible show wpList _ _ _ (Oper.mk _ (Op.indexAddr _ _ _) _ _ _ _ :: _) _ _); refine wl_idxE (s := 7) (j := m - 1) rfl rfl rfl rfl (by omega) rfl (by omega) ?_; rw [adr_row, HLx.out]))
            have eD := E1.trans (Ext.drew _)
            have t5 := HB.ext b5 (Ext.drew _)
            have y0 := HB.cell (hc.out.ext eD) 0 rfl; have y1 := t5.cell 0 rfl; have y2 := t5.cell 1 rfl; have y3 := t5.cell 2 rfl; have y4 := t5.cell 3 rfl; have y5 := t5.cell 4 rfl
            obtain ⟨F, hF⟩ : ∃ F : Option Tmp → World → World → Value → Prop, F = fun d w0 W u => match d with | some 64 => ∃ q k, u = .slice q lw k ∧ IsOwnY [49] w0.heap.size (.sl .flt) W [.slice q lw k] ws | _ => ∃ q k, u = .slice q lb k ∧ IsOwnY [49] w0.heap.size (.sl .flt) W [.slice q lb k] bs := ⟨_, rfl⟩
            have HF := hid hF
            clear hF
            refine wp_region_yt 16 (F := F) (by kernel_rfl) (by kernel_rfl) (by kernel_rfl) (by kernel_rfl) (by kernel_rfl) ?_
            intro wf hwf
            simp only [List.take_succ_cons, List.take_zero, List.drop_succ_cons, List.drop_zero]
            repeat (first
              | (refine x_skip rfl ?_; simp only [Act.put, ev_tmp, List.setIfInBounds_toArray, List.set_cons_succ, List.set_cons_zero, List.getD_cons_succ, List.getD_cons_zero])
              | (refine x_mv rfl rfl rfl ?_; simp only [Act.put, ev_tmp, List.setIfInBounds_toArray, List.set_cons_succ, List.set_cons_zero, List.getD_cons_succ, List.getD_cons_zero])
              | (refine x_as rfl rfl rfl ?_; simp only [Act.put, ev_tmp, List.setIfInBounds_toArray, List.set_cons_succ, List.set_cons_zero, List.getD_cons_succ, List.getD_cons_zero])
              | ((with_reducible show wpX _ _ _ _ _ _ (Oper.mk _ (Op.call _) _ _ _ _ :: _) _); refine y_callK (f := 72) (args := #[.slice pb lb cb]) rfl rfl Try.func72 rfl (by kernel_rfl) ?_ ?_ ?_; (focus (simp [Act.eval]; done)); (focus (intro w1 hw1 hK; exact (by rw [HF.out]; exact (C2.out w1 (eD.trans hw1)).mono fun e w3 h => by obtain ⟨q, k, bs', g1, g2, g3, g4, g5, g6⟩ := retFl_thing3 Hlb.out h; exact ⟨_, g1, g5, q, k, rfl, bs', g2, g3, g4, g6⟩))); rintro u wa wb e0 hK e3 e4 hu; simp only [HF.out] at hu; obtain ⟨qb, kb, rfl, o2⟩ := hu; obtain ⟨v0', v3', f0', f1', f2', f3'⟩ := knownC_call hK (j := 10) (d := 64) (by kernel_rfl) rfl rfl rfl rfl Try.func72 rfl (by kernel_rfl) (by simp); rw [HF.out] at f3'; obtain ⟨qc, kc, hqc, o1⟩ := f3'; have hqd : Value.slice qw lw kw = .slice qc lw kc := hqc; simp only [Value.slice.injEq, true_and] at hqd; obtain ⟨rfl, rfl⟩ := hqd; simp only [Act.put, ev_tmp, List.setIfInBounds_toArray, List.set_cons_succ, List.set_cons_zero, List.getD_cons_succ, List.getD_cons_zero])
              | ((with_reducible show wpX _ _ _ _ _ _ (Oper.mk _ (Op.call _) _ _ _ _ :: _) _); refine y_callK (f := 72) (args := #[.slice pw lw cw]) rfl rfl Try.func72 rfl (by kernel_rfl) ?_ ?_ ?_; (focus (simp [Act.eval]; done)); (focus (intro w1 hw1 hK; exact (by rw [HF.out]; exact (C1.out w1 (eD.trans hw1)).mono fun e w3 h => by obtain ⟨q, k, bs', g1, g2, g3, g4, g5, g6⟩ := retFl_thing3 Hlw.out h; exact ⟨_, g1, g5, q, k, rfl, bs', g2, g3, g4, g6⟩))); rintro u wa wb e0 hK e3 e4 hu; simp only [HF.out] at hu; obtain ⟨qw, kw, rfl, _⟩ := hu; simp only [Act.put, ev_tmp, List.setIfInBounds_toArray, List.set_cons_succ, List.set_cons_zero, List.getD_cons_succ, List.getD_cons_zero])
              | (refine x_build1 (u := .agg #[.int .i64 d1, .int .i64 d2, .int .i64 d3, .slice qw lw kw, .slice qb lb kb, .slice none 0 0, .bool false]) rfl rfl rfl rfl ?_; intro g5 hg5 hg6 hg7; simp only [Act.put, ev_tmp, List.setIfInBounds_toArray, List.set_cons_succ, List.set_cons_zero, List.getD_cons_succ, List.getD_cons_zero])
              | (refine x_run rfl fun K hK w1 hw1 => ?_; have k0 := hw1.cell (y0); have k1 := hw1.cell (y1); have k2 := hw1.cell (y2); have k3 := hw1.cell (y3); have k4 := hw1.cell (y4); have k5 := hw1.cell (y5); go_simp; refine hK _ ?_; clear hK K k0 k1 k2 k3 k4 k5 hw1 w1))
            refine x_nil ?_
            have eW := eD.trans hwf
            obtain ⟨bw, p1, p2, p3, p4⟩ := o1
            obtain ⟨bb, s1, s2, s3, s4⟩ := o2
            have q1 := eD.size
            have q2 := f0'.size
            have q3 := f2'.size
            have q4 := e0.size
            have pl := p1.lt
            have lo1 : ∀ b ∈ bw, wr.heap.size ≤ b := fun b hb => by have := p3 b hb; omega
            have lo2 : ∀ b ∈ bb, wr.heap.size ≤ b := fun b hb => by have := s3 b hb; omega
            have o1 := p1.ext ((f2'.trans e3).trans e4)
            have o2 := s1.ext e4
            have ty : Tys wf [49] (bw ++ (bb ++ [])) := by rw [List.append_nil]; exact (p4.ext ((f2'.trans e3).trans e4)).app (s4.ext e4)
            have hnd : (bw ++ (bb ++ [])).Nodup := by rw [List.append_nil]; exact nodup_app p2 s2 (B := wa.heap.size) (fun x hx => by have := pl x hx; omega) (fun x hx => s3 x hx)
            have hlo : ∀ b ∈ bw ++ (bb ++ []), wr.heap.size ≤ b := fun b hb => by
              rw [List.append_nil] at hb
              rcases List.mem_append.1 hb with h | h
              · exact lo1 b h
              · exact lo2 b h
            have rowf := own_ext hc.row eW
            have hsz := hc.ext.size
            have hszw := eW.size
            have hof := hc.out.ext eW
            have neo := hc.ne.1
            clear p1 p2 p3 p4 s1 s2 s3 s4 pl lo1 lo2 y0 y1 y2 y3 y4 y5
            go_wp2_with ((with_reducible show wpList _ _ _ (Oper.mk _ (Op.call _) _ _ _ _ :: _) _ _); refine wl_app1s rfl rfl rfl rfl rowf hg7 rfl (by simp [Value.cells, Value.oneCell']) (by unfold maxLen; omega) (by omega) (by omega) ?_; intro g6 c6 w6 own6 gr6 hg6'; have l0 : HB w6 w1.heap.size #[.slice (some ⟨g, 0, none⟩) m c8] 28 := hof.chg (.of_grown gr6) (fun hh => neo _ hh.symm rfl); have l5 := l0.cell 0 rfl; have l6 := l0.froz 0)
            go_roundw
            case rel =>
              obtain ⟨cs', bss', hc'⟩ := hc.push eW (d := (d1, d2, d3, ws, bs, ())) o1 o2 own_nil hnd hlo ty own6 gr6 hg6'
              refine ⟨i + 1, m + 1, c6, some ⟨g6, 0, none⟩, cs', bss', by omega, by go_num, ?_⟩
              rw [Hsucc.out, Hc.out]
              exact hc'
            case measure => simp [intOf]; omega
          · have hBare : bareB (lastP P) = false := by rw [hBB]; rfl
            clear hBB
            clear CO0
            have Hc := hid (cmp_push0 (P := P) (d := (d1, d2, d3, ws, bs, du)) hd1 hd2)
            have Q1 := beq_f hd1
            have Q2 := beq_f hd2
            subst hW1
            go_wp2_with (first | ((with_reducible show wpList _ _ _ (Oper.mk _ (Op.indexAddr _ _ _) _ _ _ _ :: Oper.mk _ (Op.load _ _) _ _ _ _ :: _) _ _); refine wl_idxloadE (s := shLayer) (j := i) rfl rfl rfl rfl (fun _ => rfl) rfl rfl rfl hp l3 l5.out hlt hs1 hci ?_; simp only [ofCs, Sh.agg, if_true]) | ((with_reducible show wpList _ _ _ (Oper.mk _ (Op.indexAddr _ _ _) _ _ _ _ :: _) _ _); refine wl_idxE (s := 7) (j := m - 1) rfl rfl rfl rfl (by omega) rfl (by omega) ?_; rw [adr_row, HLx.out]))
            have eD := E1.trans (Ext.drew _)
            have t5 := HB.ext b5 (Ext.drew _)
            have y0 := HB.cell (hc.out.ext eD) 0 rfl; have y1 := t5.cell 0 rfl; have y2 := t5.cell 1 rfl; have y3 := t5.cell 2 rfl; have y4 := t5.cell 3 rfl; have y5 := t5.cell 4 rfl
            obtain ⟨F, hF⟩ : ∃ F : Option Tmp → World → World → Value → Prop, F = fun d w0 W u => match d with | some 64 => ∃ q k, u = .slice q lw k ∧ IsOwnY [49] w0.heap.size (.sl .flt) W [.slice q lw k] ws | _ => ∃ q k, u = .slice q lb k ∧ IsOwnY [49] w0.heap.size (.sl .flt) W [.slice q lb k] bs := ⟨_, rfl⟩
            have HF := hid hF
            clear hF
            refine wp_region_yt 16 (F := F) (by kernel_rfl) (by kernel_rfl) (by kernel_rfl) (by kernel_rfl) (by kernel_rfl) ?_
            intro wf hwf
            simp only [List.take_succ_cons, List.take_zero, List.drop_succ_cons, List.drop_zero]
            repeat (first
              | (refine x_skip rfl ?_; simp only [Act.put, ev_tmp, List.setIfInBounds_toArray, List.set_cons_succ, List.set_cons_zero, List.getD_cons_succ, List.getD_cons_zero])
              | (refine x_mv rfl rfl rfl ?_; simp only [Act.put, ev_tmp, List.setIfInBounds_toArray, List.set_cons_succ, List.set_cons_zero, List.getD_cons_succ, List.getD_cons_zero])
              | (refine x_as rfl rfl rfl ?_; simp only [Act.put, ev_tmp, List.setIfInBounds_toArray, List.set_cons_succ, List.set_cons_zero, List.getD_cons_succ, List.getD_cons_zero])
              | ((with_reducible show wpX _ _ _ _ _ _ (Oper.mk _ (Op.call _) _ _ _ _ :: _) _); refine y_callK (f := 72) (args := #[.slice pb lb cb]) rfl rfl Try.func72 rfl (by kernel_rfl) ?_ ?_ ?_; (focus (simp [Act.eval]; done)); (focus (intro w1 hw1 hK; exact (by rw [HF.out]; exact (C2.out w1 (eD.trans hw1)).mono fun e w3 h => by obtain ⟨q, k, bs', g1, g2, g3, g4, g5, g6⟩ := retFl_thing3 Hlb.out h; exact ⟨_, g1, g5, q, k, rfl, bs', g2, g3, g4, g6⟩))); rintro u wa wb e0 hK e3 e4 hu; simp only [HF.out] at hu; obtain ⟨qb, kb, rfl, o2⟩ := hu; obtain ⟨v0', v3', f0', f1', f2', f3'⟩ := knownC_call hK (j := 10) (d := 64) (by kernel_rfl) rfl rfl rfl rfl Try.func72 rfl (by kernel_rfl) (by simp); rw [HF.out] at f3'; obtain ⟨qc, kc, hqc, o1⟩ := f3'; have hqd : Value.slice qw lw kw = .slice qc lw kc := hqc; simp only [Value.slice.injEq, true_and] at hqd; obtain ⟨rfl, rfl⟩ := hqd; simp only [Act.put, ev_tmp, List.setIfInBounds_toArray, List.set_cons_succ, List.set_cons_zero, List.getD_cons_succ, List.getD_cons_zero])
              | ((with_reducible show wpX _ _ _ _ _ _ (Oper.mk _ (Op.call _) _ _ _ _ :: _) _); refine y_callK (f := 72) (args := #[.slice pw lw cw]) rfl rfl Try.func72 rfl (by kernel_rfl) ?_ ?_ ?_; (focus (simp [Act.eval]; done)); (focus (intro w1 hw1 hK; exact (by rw [HF.out]; exact (C1.out w1 (eD.trans hw1)).mono fun e w3 h => by obtain ⟨q, k, bs', g1, g2, g3, g4, g5, g6⟩ := retFl_thing3 Hlw.out h; exact ⟨_, g1, g5, q, k, rfl, bs', g2, g3, g4, g6⟩))); rintro u wa wb e0 hK e3 e4 hu; simp only [HF.out] at hu; obtain ⟨qw, kw, rfl, _⟩ := hu; simp only [Act.put, ev_tmp, List.setIfInBounds_toArray, List.set_cons_succ, List.set_cons_zero, List.getD_cons_succ, List.getD_cons_zero])
              | (refine x_build1 (u := .agg #[.int .i64 d1, .int .i64 d2, .int .i64 d3, .slice qw lw kw, .slice qb lb kb, .slice none 0 0, .bool false]) rfl rfl rfl rfl ?_; intro g5 hg5 hg6 hg7; simp only [Act.put, ev_tmp, List.setIfInBounds_toArray, List.set_cons_succ, List.set_cons_zero, List.getD_cons_succ, List.getD_cons_zero])
              | (refine x_run rfl fun K hK w1 hw1 => ?_; have k0 := hw1.cell (y0); have k1 := hw1.cell (y1); have k2 := hw1.cell (y2); have k3 := hw1.cell (y3); have k4 := hw1.cell (y4); have k5 := hw1.cell (y5); go_simp; refine hK _ ?_; clear hK K k0 k1 k2 k3 k4 k5 hw1 w1))
            refine x_nil ?_
            have eW := eD.trans hwf
            obtain ⟨bw, p1, p2, p3, p4⟩ := o1
            obtain ⟨bb, s1, s2, s3, s4⟩ := o2
            have q1 := eD.size
            have q2 := f0'.size
            have q3 := f2'.size
            have q4 := e0.size
            have pl := p1.lt
            have lo1 : ∀ b ∈ bw, wr.heap.size ≤ b := fun b hb => by have := p3 b hb; omega
            have lo2 : ∀ b ∈ bb, wr.heap.size ≤ b := fun b hb => by have := s3 b hb; omega
            have o1 := p1.ext ((f2'.trans e3).trans e4)
            have o2 := s1.ext e4
            have ty : Tys wf [49] (bw ++ (bb ++ [])) := by rw [List.append_nil]; exact (p4.ext ((f2'.trans e3).trans e4)).app (s4.ext e4)
            have hnd : (bw ++ (bb ++ [])).Nodup := by rw [List.append_nil]; exact nodup_app p2 s2 (B := wa.heap.size) (fun x hx => by have := pl x hx; omega) (fun x hx => s3 x hx)
            have hlo : ∀ b ∈ bw ++ (bb ++ []), wr.heap.size ≤ b := fun b hb => by
              rw [List.append_nil] at hb
              rcases List.mem_append.1 hb with h | h
              · exact lo1 b h
              · exact lo2 b h
            have rowf := own_ext hc.row eW
            have hsz := hc.ext.size
            have hszw := eW.size
            have hof := hc.out.ext eW
            have neo := hc.ne.1
            clear p1 p2 p3 p4 s1 s2 s3 s4 pl lo1 lo2 y0 y1 y2 y3 y4 y5
            go_wp2_with ((with_reducible show wpList _ _ _ (Oper.mk _ (Op.call _) _ _ _ _ :: _) _ _); refine wl_app1s rfl rfl rfl rfl rowf hg7 rfl (by simp [Value.cells, Value.oneCell']) (by unfold maxLen; omega) (by omega) (by omega) ?_; intro g6 c6 w6 own6 gr6 hg6'; have l0 : HB w6 w1.heap.size #[.slice (some ⟨g, 0, none⟩) m c8] 28 := hof.chg (.of_grown gr6) (fun hh => neo _ hh.symm rfl); have l5 := l0.cell 0 rfl; have l6 := l0.froz 0)
            go_roundw
            case rel =>
              obtain ⟨cs', bss', hc'⟩ := hc.push eW (d := (d1, d2, d3, ws, bs, ())) o1 o2 own_nil hnd hlo ty own6 gr6 hg6'
              refine ⟨i + 1, m + 1, c6, some ⟨g6, 0, none⟩, cs', bss', by omega, by go_num, ?_⟩
              rw [Hsucc.out, Hc.out]
              exact hc'
            case measure => simp [intOf]; omega
        · have Qz := beq_f (show ¬ (lz : Int) = 0 by omega)
          have hBare : bareB (lastP P) = false := by rw [hBB, decide_eq_false hz]; rfl
          clear hBB
          clear CO0
          have Hc := hid (cmp_push0 (P := P) (d := (d1, d2, d3, ws, bs, du)) hd1 hd2)
          have Q1 := beq_f hd1
          have Q2 := beq_f hd2
          subst hW1
          go_wp2_with (first | ((with_reducible show wpList _ _ _ (Oper.mk _ (Op.indexAddr _ _ _) _ _ _ _ :: Oper.mk _ (Op.load _ _) _ _ _ _ :: _) _ _); refine wl_idxloadE (s := shLayer) (j := i) rfl rfl rfl rfl (fun _ => rfl) rfl rfl rfl hp l3 l5.out hlt hs1 hci ?_; simp only [ofCs, Sh.agg, if_true]) | ((with_reducible show wpList _ _ _ (Oper.mk _ (Op.indexAddr _ _ _) _ _ _ _ :: _) _ _); refine wl_idxE (s := 7) (j := m - 1) rfl rfl rfl rfl (by omega) rfl (by omega) ?_; rw [adr_row, HLx.out]))
          have eD := E1.trans (Ext.drew _)
          have t5 := HB.ext b5 (Ext.drew _)
          have y0 := HB.cell (hc.out.ext eD) 0 rfl; have y1 := t5.cell 0 rfl; have y2 := t5.cell 1 rfl; have y3 := t5.cell 2 rfl; have y4 := t5.cell 3 rfl; have y5 := t5.cell 4 rfl
          obtain ⟨F, hF⟩ : ∃ F : Option Tmp → World → World → Value → Prop, F = fun d w0 W u => match d with | some 64 => ∃ q k, u = .slice q lw k ∧ IsOwnY [49] w0.heap.size (.sl .flt) W [.slice q lw k] ws | _ => ∃ q k, u = .slice q lb k ∧ IsOwnY [49] w0.heap.size (.sl .flt) W [.slice q lb k] bs := ⟨_, rfl⟩
          have HF := hid hF
          clear hF
          refine wp_region_yt 16 (F := F) (by kernel_rfl) (by kernel_rfl) (by kernel_rfl) (by kernel_rfl) (by kernel_rfl) ?_
          intro wf hwf
          simp only [List.take_succ_cons, List.take_zero, List.drop_succ_cons, List.drop_zero]
          repeat (first
            | (refine x_skip rfl ?_; simp only [Act.put, ev_tmp, List.setIfInBounds_toArray, List.set_cons_succ, List.set_cons_zero, List.getD_cons_succ, List.getD_cons_zero])
            | (refine x_mv rfl rfl rfl ?_; simp only [Act.put, ev_tmp, List.setIfInBounds_toArray, List.set_cons_succ, List.set_cons_zero, List.getD_cons_succ, List.getD_cons_zero])
            | (refine x_as rfl rfl rfl ?_; simp only [Act.put, ev_tmp, List.setIfInBounds_toArray, List.set_cons_succ, List.set_cons_zero, List.getD_cons_succ, List.getD_cons_zero])
            | ((with_reducible show wpX _ _ _ _ _ _ (Oper.mk _ (Op.call _) _ _ _ _ :: _) _); refine y_callK (f := 72) (args := #[.slice pb lb cb]) rfl rfl Try.func72 rfl (by kernel_rfl) ?_ ?_ ?_; (focus (simp [Act.eval]; done)); (focus (intro w1 hw1 hK; exact (by rw [HF.out]; exact (C2.out w1 (eD.trans hw1)).mono fun e w3 h => by obtain ⟨q, k, bs', g1, g2, g3, g4, g5, g6⟩ := retFl_thing3 Hlb.out h; exact ⟨_, g1, g5, q, k, rfl, bs', g2, g3, g4, g6⟩))); rintro u wa wb e0 hK e3 e4 hu; simp only [HF.out] at hu; obtain ⟨qb, kb, rfl, o2⟩ := hu; obtain ⟨v0', v3', f0', f1', f2', f3'⟩ := knownC_call hK (j := 10) (d := 64) (by kernel_rfl) rfl rfl rfl rfl Try.func72 rfl (by kernel_rfl) (by simp); rw [HF.out] at f3'; obtain ⟨qc, kc, hqc, o1⟩ := f3'; have hqd : Value.slice qw lw kw = .slice qc lw kc := hqc; simp only [Value.slice.injEq, true_and] at hqd; obtain ⟨rfl, rfl⟩ := hqd; simp only [Act.put, ev_tmp, List.setIfInBounds_toArray, List.set_cons_succ, List.set_cons_zero, List.getD_cons_succ, List.getD_cons_zero])
            | ((with_reducible show wpX _ _ _ _ _ _ (Oper.mk _ (Op.call _) _ _ _ _ :: _) _); refine y_callK (f := 72) (args := #[.slice pw lw cw]) rfl rfl Try.func72 rfl (by kernel_rfl) ?_ ?_ ?_; (focus (simp [Act.eval]; done)); (focus (intro w1 hw1 hK; exact (by rw [HF.out]; exact (C1.out w1 (eD.trans hw1)).mono fun e w3 h => by obtain ⟨q, k, bs', g1, g2, g3, g4, g5, g6⟩ := retFl_thing3 Hlw.out h; exact ⟨_, g1, g5, q, k, rfl, bs', g2, g3, g4, g6⟩))); rintro u wa wb e0 hK e3 e4 hu; simp only [HF.out] at hu; obtain ⟨qw, kw, rfl, _⟩ := hu; simp only [Act.put, ev_tmp, List.setIfInBounds_toArray, List.set_cons_succ, List.set_cons_zero, List.getD_cons_succ, List.getD_cons_zero])
            | (refine x_build1 (u := .agg #[.int .i64 d1, .int .i64 d2, .int .i64 d3, .slice qw lw kw, .slice qb lb kb, .slice none 0 0, .bool false]) rfl rfl rfl rfl ?_; intro g5 hg5 hg6 hg7; simp only [Act.put, ev_tmp, List.setIfInBounds_toArray, List.set_cons_succ, List.set_cons_zero, List.getD_cons_succ, List.getD_cons_zero])
            | (refine x_run rfl fun K hK w1 hw1 => ?_; have k0 := hw1.cell (y0); have k1 := hw1.cell (y1); have k2 := hw1.cell (y2); have k3 := hw1.cell (y3); have k4 := hw1.cell (y4); have k5 := hw1.cell (y5); go_simp; refine hK _ ?_; clear hK K k0 k1 k2 k3 k4 k5 hw1 w1))
          refine x_nil ?_
          have eW := eD.trans hwf
          obtain ⟨bw, p1, p2, p3, p4⟩ := o1
          obtain ⟨bb, s1, s2, s3, s4⟩ := o2
          have q1 := eD.size
          have q2 := f0'.size
          have q3 := f2'.size
          have q4 := e0.size
          have pl := p1.lt
          have lo1 : ∀ b ∈ bw, wr.heap.size ≤ b := fun b hb => by have := p3 b hb; omega
          have lo2 : ∀ b ∈ bb, wr.heap.size ≤ b := fun b hb => by have := s3 b hb; omega
          have o1 := p1.ext ((f2'.trans e3).trans e4)
          have o2 := s1.ext e4
          have ty : Tys wf [49] (bw ++ (bb ++ [])) := by rw [List.append_nil]; exact (p4.ext ((f2'.trans e3).trans e4)).app (s4.ext e4)
          have hnd : (bw ++ (bb ++ [])).Nodup := by rw [List.append_nil]; exact nodup_app p2 s2 (B := wa.heap.size) (fun x hx => by have := pl x hx; omega) (fun x hx => s3 x hx)
          have hlo : ∀ b ∈ bw ++ (bb ++ []), wr.heap.size ≤ b := fun b hb => by
            rw [List.append_nil] at hb
            rcases List.mem_append.1 hb with h | h
            · exact lo1 b h
            · exact lo2 b h
          have rowf := own_ext hc.row eW
          have hsz := hc.ext.size
          have hszw := eW.size
          have hof := hc.out.ext eW
          have neo := hc.ne.1
          clear p1 p2 p3 p4 s1 s2 s3 s4 pl lo1 lo2 y0 y1 y2 y3 y4 y5
          go_wp2_with ((with_reducible show wpList _ _ _ (Oper.mk _ (Op.call _) _ _ _ _ :: _) _ _); refine wl_app1s rfl rfl rfl rfl rowf hg7 rfl (by simp [Value.cells, Value.oneCell']) (by unfold maxLen; omega) (by omega) (by omega) ?_; intro g6 c6 w6 own6 gr6 hg6'; have l0 : HB w6 w1.heap.size #[.slice (some ⟨g, 0, none⟩) m c8] 28 := hof.chg (.of_grown gr6) (fun hh => neo _ hh.symm rfl); have l5 := l0.cell 0 rfl; have l6 := l0.froz 0)
          go_roundw
          case rel =>
            obtain ⟨cs', bss', hc'⟩ := hc.push eW (d := (d1, d2, d3, ws, bs, ())) o1 o2 own_nil hnd hlo ty own6 gr6 hg6'
            refine ⟨i + 1, m + 1, c6, some ⟨g6, 0, none⟩, cs', bss', by omega, by go_num, ?_⟩
            rw [Hsucc.out, Hc.out]
            exact hc'
          case measure => simp [intOf]; omega
      · have Q0 := beq_f hk0
        have hBare : bareB (lastP P) = false := by rw [hBB, decide_eq_false hk0]; rfl
        clear hBB
        clear CO0
        have Hc := hid (cmp_push0 (P := P) (d := (d1, d2, d3, ws, bs, du)) hd1 hd2)
        have Q1 := beq_f hd1
        have Q2 := beq_f hd2
        subst hW1
        go_wp2_with (first | ((with_reducible show wpList _ _ _ (Oper.mk _ (Op.indexAddr _ _ _) _ _ _ _ :: Oper.mk _ (Op.load _ _) _ _ _ _ :: _) _ _); refine wl_idxloadE (s := shLayer) (j := i) rfl rfl rfl rfl (fun _ => rfl) rfl rfl rfl hp l3 l5.out hlt hs1 hci ?_; simp only [ofCs, Sh.agg, if_true]) | ((with_reducible show wpList _ _ _ (Oper.mk _ (Op.indexAddr _ _ _) _ _ _ _ :: _) _ _); refine wl_idxE (s := 7) (j := m - 1) rfl rfl rfl rfl (by omega) rfl (by omega) ?_; rw [adr_row, HLx.out]))
        have eD := E1.trans (Ext.drew _)
        have t5 := HB.ext b5 (Ext.drew _)
        have y0 := HB.cell (hc.out.ext eD) 0 rfl; have y1 := t5.cell 0 rfl; have y2 := t5.cell 1 rfl; have y3 := t5.cell 2 rfl; have y4 := t5.cell 3 rfl; have y5 := t5.cell 4 rfl
        obtain ⟨F, hF⟩ : ∃ F : Option Tmp → World → World → Value → Prop, F = fun d w0 W u => match d with | some 64 => ∃ q k, u = .slice q lw k ∧ IsOwnY [49] w0.heap.size (.sl .flt) W [.slice q lw k] ws | _ => ∃ q k, u = .slice q lb k ∧ IsOwnY [49] w0.heap.size (.sl .flt) W [.slice q lb k] bs := ⟨_, rfl⟩
        have HF := hid hF
        clear hF
        refine wp_region_yt 16 (F := F) (by kernel_rfl) (by kernel_rfl) (by kernel_rfl) (by kernel_rfl) (by kernel_rfl) ?_
        intro wf hwf
        simp only [List.take_succ_cons, List.take_zero, List.drop_succ_cons, List.drop_zero]
        repeat (first
          | (refine x_skip rfl ?_; simp only [Act.put, ev_tmp, List.setIfInBounds_toArray, List.set_cons_succ, List.set_cons_zero, List.getD_cons_succ, List.getD_cons_zero])
          | (refine x_mv rfl rfl rfl ?_; simp only [Act.put, ev_tmp, List.setIfInBounds_toArray, List.set_cons_succ, List.set_cons_zero, List.getD_cons_succ, List.getD_cons_zero])
          | (refine x_as rfl rfl rfl ?_; simp only [Act.put, ev_tmp, List.setIfInBounds_toArray, List.set_cons_succ, List.set_cons_zero, List.getD_cons_succ, List.getD_cons_zero])
          | ((with_reducible show wpX _ _ _ _ _ _ (Oper.mk _ (Op.call _) _ _ _ _ :: _) _); refine y_callK (f := 72) (args := #[.slice pb lb cb]) rfl rfl Try.func72 rfl (by kernel_rfl) ?_ ?_ ?_; (focus (simp [Act.eval]; done)); (focus (intro w1 hw1 hK; exact (by rw [HF.out]; exact (C2.out w1 (eD.trans hw1)).mono fun e w3 h => by obtain ⟨q, k, bs', g1, g2, g3, g4, g5, g6⟩ := retFl_thing3 Hlb.out h; exact ⟨_, g1, g5, q, k, rfl, bs', g2, g3, g4, g6⟩))); rintro u wa wb e0 hK e3 e4 hu; simp only [HF.out] at hu; obtain ⟨qb, kb, rfl, o2⟩ := hu; obtain ⟨v0', v3', f0', f1', f2', f3'⟩ := knownC_call hK (j := 10) (d := 64) (by kernel_rfl) rfl rfl rfl rfl Try.func72 rfl (by kernel_rfl) (by simp); rw [HF.out] at f3'; obtain ⟨qc, kc, hqc, o1⟩ := f3'; have hqd : Value.slice qw lw kw = .slice qc lw kc := hqc; simp only [Value.slice.injEq, true_and] at hqd; obtain ⟨rfl, rfl⟩ := hqd; simp only [Act.put, ev_tmp, List.setIfInBounds_toArray, List.set_cons_succ, List.set_cons_zero, List.getD_cons_succ, List.getD_cons_zero])
          | ((with_reducible show wpX _ _ _ _ _ _ (Oper.mk _ (Op.call _) _ _ _ _ :: _) _); refine y_callK (f := 72) (args := #[.slice pw lw cw]) rfl rfl Try.func72 rfl (by kernel_rfl) ?_ ?_ ?_; (focus (simp [Act.eval]; done)); (focus (intro w1 hw1 hK; exact (by rw [HF.out]; exact (C1.out w1 (eD.trans hw1)).mono fun e w3 h => by obtain ⟨q, k, bs', g1, g2, g3, g4, g5, g6⟩ := retFl_thing3 Hlw.out h; exact ⟨_, g1, g5, q, k, rfl, bs', g2, g3, g4, g6⟩))); rintro u wa wb e0 hK e3 e4 hu; simp only [HF.out] at hu; obtain ⟨qw, kw, rfl, _⟩ := hu; simp only [Act.put, ev_tmp, List.setIfInBounds_toArray, List.set_cons_succ, List.set_cons_zero, List.getD_cons_succ, List.getD_cons_zero])
          | (refine x_build1 (u := .agg #[.int .i64 d1, .int .i64 d2, .int .i64 d3, .slice qw lw kw, .slice qb lb kb, .slice none 0 0, .bool false]) rfl rfl rfl rfl ?_; intro g5 hg5 hg6 hg7; simp only [Act.put, ev_tmp, List.setIfInBounds_toArray, List.set_cons_succ, List.set_cons_zero, List.getD_cons_succ, List.getD_cons_zero])
          | (refine x_run rfl fun K hK w1 hw1 => ?_; have k0 := hw1.cell (y0); have k1 := hw1.cell (y1); have k2 := hw1.cell (y2); have k3 := hw1.cell (y3); have k4 := hw1.cell (y4); have k5 := hw1.cell (y5); go_simp; refine hK _ ?_; clear hK K k0 k1 k2 k3 k4 k5 hw1 w1))
        refine x_nil ?_
        have eW := eD.trans hwf
        obtain ⟨bw, p1, p2, p3, p4⟩ := o1
        obtain ⟨bb, s1, s2, s3, s4⟩ := o2
        have q1 := eD.size
        have q2 := f0'.size
        have q3 := f2'.size
        have q4 := e0.size
        have pl := p1.lt
        have lo1 : ∀ b ∈ bw, wr.heap.size ≤ b := fun b hb => by have := p3 b hb; omega
        have lo2 : ∀ b ∈ bb, wr.heap.size ≤ b := fun b hb => by have := s3 b hb; omega
        have o1 := p1.ext ((f2'.trans e3).trans e4)
        have o2 := s1.ext e4
        have ty : Tys wf [49] (bw ++ (bb ++ [])) := by rw [List.append_nil]; exact (p4.ext ((f2'.trans e3).trans e4)).app (s4.ext e4)
        have hnd : (bw ++ (bb ++ [])).Nodup := by rw [List.append_nil]; exact nodup_app p2 s2 (B := wa.heap.size) (fun x hx => by have := pl x hx; omega) (fun x hx => s3 x hx)
        have hlo : ∀ b ∈ bw ++ (bb ++ []), wr.heap.size ≤ b := fun b hb => by
          rw [List.append_nil] at hb
          rcases List.mem_append.1 hb with h | h
          · exact lo1 b h
          · exact lo2 b h
        have rowf := own_ext hc.row eW
        have hsz := hc.ext.size
        have hszw := eW.size
        have hof := hc.out.ext eW
        have neo := hc.ne.1
        clear p1 p2 p3 p4 s1 s2 s3 s4 pl lo1 lo2 y0 y1 y2 y3 y4 y5
        go_wp2_with ((with_reducible show wpList _ _ _ (Oper.mk _ (Op.call _) _ _ _ _ :: _) _ _); refine wl_app1s rfl rfl rfl rfl rowf hg7 rfl (by simp [Value.cells, Value.oneCell']) (by unfold maxLen; omega) (by omega) (by omega) ?_; intro g6 c6 w6 own6 gr6 hg6'; have l0 : HB w6 w1.heap.size #[.slice (some ⟨g, 0, none⟩) m c8] 28 := hof.chg (.of_grown gr6) (fun hh => neo _ hh.symm rfl); have l5 := l0.cell 0 rfl; have l6 := l0.froz 0)
        go_roundw
        case rel =>
          obtain ⟨cs', bss', hc'⟩ := hc.push eW (d := (d1, d2, d3, ws, bs, ())) o1 o2 own_nil hnd hlo ty own6 gr6 hg6'
          refine ⟨i + 1, m + 1, c6, some ⟨g6, 0, none⟩, cs', bss', by omega, by go_num, ?_⟩
          rw [Hsucc.out, Hc.out]
          exact hc'
        case measure => simp [intOf]; omega
    · obtain rfl : i = n := by omega
      have f0 := hc.out.cell 0 rfl
      have f1 := b1.ext (e1.trans hc.ext)
      have n1 := f1.cell 0 rfl
      have m1 := f1.froz 0
      have hz := e1.size
      have hz1 := E0.size
      have hPl := hc.len
      have O := hc.grow.ownY (ts := [117, 49]) (hc.tys.mono (by simp)) (by simp)
      obtain ⟨bs, o1, o2, o3, o4⟩ := O
      have eW := E0.trans (e1.trans hc.ext)
      have HPl := hid hPl
      clear hPl
      go_wp2
      refine bodyPost_ret (v := .tuple #[.agg #[.slice q m c8], .bool true]) (by simp [results, Try.results15, go_sem, n1, m1]) rfl ?_
      have ch := chg_cell wr (w.heap.size + 1) 0 (.slice q m c8)
      exact ⟨[.slice q m c8], bs, rfl, own_pla (o1.chg ch (fun b hb h => by have := o3 b hb; have h : b = _ := h; omega)), o2, fun b hb => by have := o3 b hb; omega, (o4.chg ch (fun b hb h => by have := o3 b hb; have h : b = _ := h; omega)).no (by decide), eW.chg ch (fun b hb => by omega)⟩
end Go.Proofs.Ytlimabbeaimdgaa.lCompileModel
