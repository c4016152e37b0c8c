/- Models that are drawn. -/
import Derived.Test.YtlimabbeaimdgaaDr6
import Derived.Test.YtlimabbeaimdgaaKe
namespace Go.Proofs.Ytlimabbeaimdgaa
set_option linter.unusedSimpArgs false
set_option linter.unusedVariables false
open Go.RowKit

theorem outL_last {L : List shLayer.T} (h : 1 ≤ L.length) (i0 : Int) : outL L = lastO i0 L := by
  unfold outL lastO
  rw [List.getLast?_eq_getElem?, List.getElem?_eq_getElem (show L.length - 1 < L.length by omega)]
  rfl
theorem layB_relu {n : Int} (h1 : 1 ≤ n) (h2 : n ≤ 8) : layB 1 n n 0 0 = true := by
  have a : inB 1 0 5 = true := by decide
  have b : inB n 1 8 = true := inB_true.2 ⟨h1, h2⟩
  unfold layB
  rw [a, b]
  simp [wCnt, bCnt]
/-- The length of the list in a block's first cell. -/
def lenAt (W : World) (b : Nat) : Nat := match W.cell? ⟨b, 0, none⟩ with
  | some (.slice _ n _) => n
  | _ => 0
theorem lenAt_of {w : World} {b n c : Nat} {q : Option Addr} {t : TypeId} (h : HB w b #[.slice q n c] t) : lenAt w b = n := by
  unfold lenAt
  rw [h.cell 0 rfl]
  rfl
theorem GrowOwn.chgN {S : Nat → Prop} {w w' : World} {B : Nat} {te : TypeId} {E : Sh} {v : Value} {l : List E.T} {css : List (List Value)} {bss : List (List Nat)} (h : GrowOwn w B te E v l css bss) (k : Chg S w w') (h1 : ∀ b, v.ownBlock = some b → ¬ S b) (h2 : ∀ b ∈ bss.flatten, ¬ S b) : GrowOwn w' B te E v l css bss :=
  ⟨ownsRow_chg h.row k h1, h.els.chg k (fun b hb hs => h2 b hb hs), h.nodup, h.lo⟩
set_option maxRecDepth 100000 in
set_option maxHeartbeats 4000000 in
theorem l03DrawOk_any (sb K : Nat) (w : World) (h : DrAt w sb K) (hK : K ≤ 10000) :
    Calls Try.prog 94 #[.pointer (some ⟨sb, 0, none⟩)] w (GotMod sb (K + 30000) 6 w) := by
  have hlt0 := h.lt
  obtain ⟨W0, hW0⟩ : ∃ W0, W0 = w.alloc (.cells #[.slice none 0 0] 33) := ⟨_, rfl⟩
  have E0 : Ext w W0 := by rw [hW0]; exact Ext.alloc _ _
  have b0 : HB W0 w.heap.size #[.slice none 0 0] 33 := by rw [hW0]; exact HB.new _ _ _
  have s0 := b0.lt
  have H0 := h.ext E0
  clear h
  go_enter Try.func94, Try.ntmps94
  go_wp2_with fail
  rw [← hW0]
  clear hW0
  refine (drPick_any sb K 4 W0 H0 (by omega) (by omega)).mono ?_
  rintro e w1 ⟨x, rfl, hx, _, H1, c1⟩
  have hx := hx (by omega)
  have B0 := b0.chg c1 (fun hh => by omega)
  have C1 := (Chg.of_ext (S := fun b => b = sb) E0).trans c1
  clear b0 H0 E0
  go_wp2_with fail
  refine (l03DrawSome_any sb (K + 2) (1 + (x : Int)) 6 w1 H1 (by omega) (by omega) (by omega)).mono ?_
  rintro e w2 ⟨i0, L, q, c, rfl, hG, hn1, hn3, ⟨B, cs, bss, hB, hB2, G, T⟩, H2, c2⟩
  have B02 := B0.chg c2 (fun hh => by omega)
  have C2 := C1.trans c2
  have z1 := c1.size
  have z2 := c2.size
  obtain ⟨W3, hW3⟩ : ∃ W3, W3 = w2.alloc (.cells #[.slice q L.length c] 33) := ⟨_, rfl⟩
  have E3 : Ext w2 W3 := by rw [hW3]; exact Ext.alloc _ _
  have b4 : HB W3 w2.heap.size #[.slice q L.length c] 33 := by rw [hW3]; exact HB.new _ _ _
  have H3 := H2.ext E3
  clear H2 H1 c1 c2 B0
  go_wp2_with fail
  rw [← hW3]
  clear hW3
  refine (drOne_any sb (K + 2 + 20000) 20 W3 H3 (by omega) (by omega)).mono ?_
  rintro e w4 ⟨bb, rfl, H4, c4⟩
  have B4 := b4.chg c4 (fun hh => by omega)
  have B04 := (B02.ext E3).chg c4 (fun hh => by omega)
  have C4 := (C2.trans (.of_ext E3)).trans c4
  have T4 := (T.ext E3).chg c4 (fun b hb h => by have h : b = sb := h; have := (G.lo b hb).1; omega)
  have G4 := (G.ext E3).chgB c4 (fun b hb => by have hb : b = sb := hb; omega)
  have z4 := c4.size
  have l3 := b4.lt
  have lB : ∀ b, (Value.slice q L.length c).ownBlock = some b → B ≤ b ∧ b < w2.heap.size := fun b hb => ⟨own_le G.row b hb, own_lt G.row b hb⟩
  have hBw : ∀ b ∈ bss.flatten, b < w2.heap.size := G.els.lt
  clear G T H3 b4 B02
  cases bb
  · have r4 := B4.cell 0 rfl
    have r0 := B04.cell 0 rfl
    have f0 := B04.froz 0
    go_wp2
    refine bodyPost_ret (v := .agg #[.slice q L.length c]) (by simp [results, Try.results94, go_sem, r0, f0]) rfl ?_
    have ch := chg_cell w4 w.heap.size 0 (.slice q L.length c)
    exact ⟨i0, L, q, c, rfl, hG, hn1, by omega, ⟨B, cs, bss, by omega, by have := ch.size; omega, G4.chgB ch (fun b hb => by have hb : b = _ := hb; omega), T4.chg ch (fun b hb h => by have h : b = _ := h; have := (G4.lo b hb).1; omega)⟩, (H4.chg ch (fun b hb => by have hb : b = _ := hb; omega)).mono (by omega), C4.late ch (fun b hb => by left; have hb : b = _ := hb; omega)⟩
  · go_wp2
    go_loopw [5] (fun uv wr => Hid (uv = uv) ∧ ∃ (n c : Nat) (L : List shLayer.T) (q : Option Addr) (cs : List (List Value)) (bss : List (List Nat)), 1 ≤ n ∧ n ≤ 6 ∧ Hid (L.length = n) ∧ HB wr w2.heap.size #[.slice q n c] 33 ∧ HB wr w.heap.size #[.slice none 0 0] 33 ∧ Hid (GrowOwn wr B 65 shLayer (.slice q n c) L cs bss) ∧ Hid (Tys wr [49] bss.flatten) ∧ Hid (GoodL i0 L) ∧ DrAt wr sb (K + 2 + 20000 + 2) ∧ Chg (fun b => b = sb) w wr ∧ w4.heap.size ≤ wr.heap.size ∧ Hid ((∀ b, (Value.slice q n c).ownBlock = some b → b ≠ w2.heap.size) ∧ ∀ b ∈ bss.flatten, b ≠ w2.heap.size)) (fun _ W => 6 - lenAt W w2.heap.size)
    case atStart => exact ⟨rfl, L.length, c, L, q, cs, bss, hn1, by omega, rfl, B4, B04, G4, T4, hG, H4, C4, Nat.le_refl _, hid ⟨fun b hb => by have := lB b hb; omega, fun b hb => by have := hBw b hb; omega⟩⟩
    case round =>
      clear B4 B04 G4 T4 hG H4 C4 hn1 hn3 lB hBw C2 E3
      obtain ⟨_, n, c, L, q, cs, bss, hn1, hn6, HL, B4, B0, HG, HT, HQ, S, C, hz, HN⟩ := hrel
      have r4 := B4.cell 0 rfl
      have r0 := B0.cell 0 rfl
      have f0 := B0.froz 0
      by_cases hlt : n < 6
      · obtain ⟨ob, o1, _, _⟩ := HG.out.own
        obtain ⟨p', c', css', hv, LY⟩ := lays_of o1.rep HQ.out.2.2.2
        rw [HL.out] at hv LY
        cases hv
        have hO := outL_last (L := L) (by rw [HL.out]; exact hn1) i0
        have CO := l03Out_any (sp := none) w2.heap.size 0 q n c css' L wr LY hn1 r4
        rw [hO] at CO
        have hq1 := HQ.out.2.1
        have hq2 := HQ.out.2.2.1
        obtain ⟨inn, hinn⟩ : ∃ z, z = lastO i0 L := ⟨_, rfl⟩
        rw [← hinn] at hq1 hq2 CO
        have HI := hid hinn
        clear hinn hO LY o1 r0 f0
        go_wp2_with fail
        refine CO.mono ?_
        rintro e w5 ⟨rfl, e5⟩
        have hrow := HG.out.row
        rw [HL.out] at hrow
        have row5 := own_ext hrow e5
        have B5 := B4.ext e5
        have Z5 := B0.ext e5
        have r5 := B5.cell 0 rfl
        have z5 := e5.size
        have l4 := B4.lt
        go_wp2_with (first | ((with_reducible show wpList _ _ _ (Oper.mk _ (Op.buildSlice _ _ _) _ _ _ _ :: Oper.mk _ (Op.call _) _ _ _ _ :: _) _ _); refine wl_app1b (u := .agg #[.int .i64 1, .int .i64 inn, .int .i64 inn, .slice none 0 0, .slice none 0 0]) rfl rfl rfl rfl rfl (by rfl) (by rfl) (fun _ => rfl) (fun _ => rfl) row5 (by unfold maxLen; omega) (by omega) (by omega) ?_; intro g9 c9 w9 own9 gr9 hw9; have hg9 : HB w9 w2.heap.size #[.slice q n c] 33 := B5.chg (.of_grown gr9) (fun h => HN.out.1 _ h.symm rfl)) | ((with_reducible show wpList _ _ _ (Oper.mk _ (Op.store _ _ _) _ _ _ _ :: _) _ _); refine wl_stHB (j := 0) rfl rfl hg9 rfl rfl rfl rfl ?_; intro w10 b11 ch10))
        have b11 : HB w10 w2.heap.size #[.slice (some ⟨g9, 0, none⟩) (n + 1) c9] 33 := b11
        go_roundw
        case rel =>
          have G10 : GoodL i0 (L ++ [((1 : Int), inn, inn, [], [], ())]) := by
            rw [HI.out]
            exact HQ.out.snoc (k := 1) (o := lastO i0 L) (ws := []) (bs := []) (layB_relu HQ.out.2.1 HQ.out.2.2.1) (fun x hx => by simp at hx) (fun x hx => by simp at hx)
          have ol : Own w5 shLayer [.int .i64 1, .int .i64 inn, .int .i64 inn, .slice none 0 0, .slice none 0 0] ((1 : Int), inn, inn, [], [], ()) ([] ++ []) := own_lay (d := ((1 : Int), inn, inn, [], [], ())) own_nil own_nil
          have H9 := HG.out.snocC (Chg.of_ext (S := fun _ => False) e5) (fun b hb => hb.elim) ol (by simp) (fun b hb => by simp at hb) (by omega) (n := n) HL.out own9 gr9 (by rcases hw9 with h | h; exact .inl h; right; omega)
          have hg9ne : g9 ≠ w2.heap.size := by
            rcases hw9 with h | h
            · exact HN.out.1 _ h
            · omega
          have hne2 : ∀ b ∈ (bss ++ [[] ++ []]).flatten, b ≠ w2.heap.size := fun b hb => by
            have hh : (bss ++ [([] ++ [] : List Nat)]).flatten = bss.flatten := by simp
            rw [hh] at hb
            exact HN.out.2 b hb
          have H10 := H9.chgN ch10 (fun b hb hs => by have hs : b = _ := hs; simp [Value.ownBlock] at hb; omega) (fun b hb hs => hne2 b hb hs)
          have T10 : Tys w10 [49] (bss ++ [[] ++ []]).flatten := by
            have hh : (bss ++ [([] ++ [] : List Nat)]).flatten = bss.flatten := by simp
            rw [hh]
            exact ((HT.out.ext e5).chg (.of_grown gr9) (fun b hb h => (HG.out.lo b hb).2 h.symm)).chg ch10 (fun b hb h => HN.out.2 b hb h)
          have S10 := ((S.ext e5).chg (.of_grown gr9) (fun b hb => by have := own_le row5 b hb.symm; omega)).chg ch10 (fun b hb => by have hb : b = _ := hb; omega)
          have C10 := ((C.trans (.of_ext e5)).late (.of_grown gr9) (fun b hb => by left; have := own_le row5 b hb.symm; omega)).late ch10 (fun b hb => by left; have hb : b = _ := hb; omega)
          have Z10 : HB w10 w.heap.size #[.slice none 0 0] 33 := (Z5.chg (.of_grown gr9) (fun h => by have := own_le row5 _ h.symm; omega)).chg ch10 (fun h => by omega)
          refine ⟨_, _, _, _, _, _, _, _, _, _, _, _, _, _, ?_, rfl⟩
          exact ⟨trivial, n + 1, c9, L ++ [((1 : Int), inn, inn, [], [], ())], some ⟨g9, 0, none⟩, _, _, by omega, by omega, by rw [Hid, List.length_append, HL.out]; rfl, b11, Z10, H10, T10, G10, S10, C10, by have := gr9.size; have := ch10.size; omega, hid ⟨fun b hb => by simp [Value.ownBlock] at hb; omega, hne2⟩⟩
        case measure => rw [lenAt_of b11, lenAt_of B4]; omega
      · obtain rfl : n = 6 := by omega
        go_wp2
        refine bodyPost_ret (v := .agg #[.slice q 6 c]) (by simp [results, Try.results94, go_sem, r0, f0]) rfl ?_
        have ch := chg_cell wr w.heap.size 0 (.slice q 6 c)
        have HLo := HL.out
        exact ⟨i0, L, q, c, by rw [HLo]; try rfl, HQ.out, by omega, by omega, ⟨B, cs, bss, by omega, by have := ch.size; omega, by rw [HLo]; exact HG.out.chgB ch (fun b hb => by have hb : b = _ := hb; omega), HT.out.chg ch (fun b hb h => by have h : b = _ := h; have := (HG.out.lo b hb).1; omega)⟩, (S.chg ch (fun b hb => by have hb : b = _ := hb; omega)).mono (by omega), C.late ch (fun b hb => by left; have hb : b = _ := hb; omega)⟩
/-- A valid model of one's own. -/
def GotM (w : World) (e : Ending) (w' : World) : Prop :=
  ∃ (L : List shLayer.T) (q : Option Addr) (c : Nat), e = .returned (.agg #[.slice q L.length c]) ∧ modB L = true ∧ Fit (.sl shLayer) L ∧ IsOwnY [65, 49] w.heap.size (.sl shLayer) w' [.slice q L.length c] L ∧ Ext w w'
theorem gotMod_M {sb K n : Nat} {w w1 w' : World} {e : Ending} (hn : n ≤ 6) (e1 : Ext w w1) (hs : w.heap.size ≤ sb) (h : GotMod sb K n w1 e w') : GotM w e w' := by
  obtain ⟨i0, L, q, c, he, hG, h1, h2, ⟨B, cs, bss, hB, hB2, G, T⟩, _, C⟩ := h
  have z := e1.size
  refine ⟨L, q, c, he, ?_, hG.2.2.2, (G.ownY (ts := [65, 49]) (T.mono (by simp)) (by simp)).base (by omega), chg_new e1 C hs⟩
  unfold modB
  simp only [Bool.and_eq_true, decide_eq_true_eq]
  exact ⟨h1, by omega, hG.1⟩
set_option maxRecDepth 100000 in
set_option maxHeartbeats 4000000 in
theorem R8Any_any (p : Option Addr) (n c : Nat) (bs : List Nat) (w : World) (hc : Cs w p (u8s bs)) (hl : bs.length = n) (hn : n ≤ 1048576) (hb : ∀ b ∈ bs, b < 256) : Calls Try.prog 38 #[.slice p n c] w (GotM w) := by
  obtain ⟨W0, hW0⟩ : ∃ W0, W0 = w.alloc (.cells #[.slice none 0 0] 33) := ⟨_, rfl⟩
  have E0 : Ext w W0 := by rw [hW0]; exact Ext.alloc _ _
  have b0 : HB W0 w.heap.size #[.slice none 0 0] 33 := by rw [hW0]; exact HB.new _ _ _
  have s0 := b0.lt
  go_enter Try.func38, Try.ntmps38
  go_wp2_with fail
  rw [← hW0]
  clear hW0
  refine (l00From_any p n c bs W0 (hc.ext E0) hl hn hb).mono ?_
  rintro e w1 ⟨rfl, src, e1⟩
  have hsz := e1.size
  go_wp2_with fail
  refine ((l03DrawOk_any W0.heap.size 0 w1 src (by omega)).mono fun e w2 h => gotMod_M (Nat.le_refl _) e1 (Nat.le_refl _) h).mono ?_
  rintro e w2 ⟨L, q, c2, rfl, hm, hf, ho, e2⟩
  have B2 := b0.ext e2
  have r0 := B2.cell 0 rfl
  have f0 := B2.froz 0
  go_wp2
  refine bodyPost_ret (v := .agg #[.slice q L.length c2]) (by simp [results, Try.results38, go_sem, r0, f0]) rfl ?_
  have ch := chg_cell w2 w.heap.size 0 (.slice q L.length c2)
  exact ⟨L, q, c2, rfl, hm, hf, (IsOwnY.chg ho ch (fun b hb => by have hb : b = _ := hb; omega)).base (by omega), (E0.trans e2).chg ch (fun b hb => by have hb : b = _ := hb; omega)⟩
end Go.Proofs.Ytlimabbeaimdgaa
