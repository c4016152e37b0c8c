/- StagesOf. -/
import Derived.Test.YtangnigplachdaaKe
import Derived.Test.YtangnigplachdaaKb
namespace Go.Proofs.Ytangnigplachdaa.lStagesOf
set_option linter.unusedSimpArgs false
set_option linter.unusedVariables false
open Go.RowKit

def res (d : shModel.T) (x : List Nat) : List (List Nat) × Bool := if modB d.1 = true ∧ (x.length : Int) = inL d.1 0 then (stF d.1 x d.1.length, true) else ([], false)
theorem tot_small {s : List (List Nat)} {N : Nat} (h : ∀ x ∈ s, x.length ≤ N) : tot (.sl (.sl .flt)) s ≤ s.length * (N + 1) := by
  rw [tot_sl]
  induction s with
  | nil => simp
  | cons x s ih =>
    have h1 := ih fun y hy => h y (by simp [hy])
    have h2 : tot (.sl .flt) x ≤ N := by rw [tot_flts]; exact h x (by simp)
    simp only [List.length_cons, List.map_cons, List.sum_cons]
    rw [Nat.add_mul, Nat.one_mul]
    omega
theorem res_bd (d : shModel.T) (x : List Nat) (_ : tot shModel d ≤ 1048576) (_ : tot (.sl .flt) x ≤ 1048576) (_ : Fit shModel d) (_ : Fit (.sl .flt) x) : tot shFloat32SS (res d x).1 ≤ 1048576 := by
  unfold res
  split
  · rename_i h
    have hM := modOk h.1
    have h1 := tot_small (s := stF d.1 x d.1.length) (N := 8) fun y hy => by
      unfold stF at hy
      obtain ⟨i, hi, rfl⟩ := List.mem_map.1 hy
      have hi : i < d.1.length := by simpa using hi
      have h2 := layF_len (hM.lay i hi) (cur_len hM h.2 i hi)
      rw [← curF_succ x hi] at h2
      have := layD_int (hM.lay i hi)
      omega
    have := hM.few
    rw [stF_len] at h1
    exact Nat.le_trans h1 (by omega)
  · exact Nat.zero_le _
theorem _root_.Go.Proofs.Ytangnigplachdaa.GrowOwn.base {w : World} {B B' : Nat} {te : TypeId} {E : Sh} {v : Value} {l : List E.T} {css : List (List Value)} {bss : List (List Nat)} (h : GrowOwn w B te E v l css bss) (hB : B' ≤ B) : GrowOwn w B' te E v l css bss :=
  ⟨own_base h.row hB, h.els, h.nodup, fun b hb => ⟨Nat.le_trans hB (h.lo b hb).1, (h.lo b hb).2⟩⟩
theorem out_grow {w w' : World} {v : Value} {l : List (List Nat)} {css : List (List Value)} {bss : List (List Nat)} {e : Ending} (h : GrowOwn w' w.heap.size 25 (.sl .flt) v l css bss) (he : e = .returned (.tuple #[v, .bool true])) (hx : Ext w w') : OutOk w (.sl (.sl .flt)) (l, true) e w' := by
  obtain ⟨bs, h1, h2, h3⟩ := h.own
  exact ⟨[v], bs, he, h1, h2, h3, hx⟩
set_option maxRecDepth 100000 in
set_option maxHeartbeats 4000000 in
theorem impl_ok (cs0 : List Value) (D0 : shModel.T) (cs1 : List Value) (D1 : List Nat) (w : World) (h0 : Rep w shModel cs0 D0) (h1 : Rep w (.sl .flt) cs1 D1) (f0 : Fit shModel D0) (_ : Fit (.sl .flt) D1) : Calls Try.prog 18 #[ofCs shModel cs0, ofCs (.sl .flt) cs1] w (OutOk w (.sl (.sl .flt)) (res D0 D1)) := by
  obtain ⟨L0, u0⟩ := D0
  obtain ⟨c0, c1, rfl, k0, rfl⟩ := h0
  obtain ⟨p, c, rfl, _⟩ := rep_val k0
  obtain ⟨p', c', css, he0, L⟩ := lays_of k0 f0.1
  cases he0
  obtain ⟨q, cq, us, rfl, hp, hf, hc, _⟩ := rep_flts.1 h1
  simp only [ofCs, Sh.agg, List.headD_cons, Bool.false_eq_true, if_false, if_true, List.append_nil]
  have A := hid (fun W (h : Ext w W) => ValidModel_any p L0.length c L0 css W L.len L.le (L.cs.ext h) (L.all.imp fun _ _ => Rep.ext h) L.size L.cnt)
  have B := hid (fun W (h : Ext w W) h1 => in_any p L0.length c css L0 W (L.ext h) h1)
  have C := hid (fun W (h : Ext w W) hM hx => stages_any p q L0.length c D1.length cq css L0 D1 W (L.ext h) hM (h1.ext h) hx)
  unfold res
  dsimp only
  generalize hL : L0.length = n at *
  generalize hm : D1.length = m at *
  have HL := hid hL
  have HM := hid hm
  clear h1 k0 L hp hf hc hL hm
  cases hv : modB L0
  · rw [if_neg (by simp)]
    rw [hv] at A
    clear hv B C
    go_enter Try.func18, Try.ntmps18
    go_wp2_with fail
    refine (A.out _ (Ext.alloc _ _)).mono ?_
    rintro e w1 ⟨rfl, e1⟩
    go_wp2
    go_ret2
    exact outOk_no rfl ((Ext.alloc _ _).trans e1)
  · have hM := modOk hv
    have hn : L0.length = n := HL.out
    have h1n : 1 ≤ n := by rw [← hn]; exact hM.pos
    have B2 := hid (fun W h => B.out W h h1n)
    by_cases hx : (m : Int) = inL L0 0
    · rw [if_pos ⟨rfl, hx⟩]
      rw [hv] at A
      have C2 := hid (fun W h => C.out W h hM hx)
      have HX := hid hx
      rw [← hx] at B2
      clear hv B C hn hM hx
      go_enter Try.func18, Try.ntmps18
      go_wp2_with fail
      refine (A.out _ (Ext.alloc _ _)).mono ?_
      rintro e w1 ⟨rfl, e1⟩
      have x1 := e1.cellOf (b := w.heap.size) (by simp)
      have he1 := (Ext.alloc w (.cells #[.slice p n c] 32)).trans e1
      go_wp2_with fail
      refine (B2.out _ he1).mono ?_
      rintro e w2 ⟨rfl, e2⟩
      have x2 := (e1.trans e2).cellOf (b := w.heap.size) (by simp)
      have he2 := he1.trans e2
      go_wp2_with fail
      refine (C2.out _ he2).mono ?_
      rintro e w3 ⟨v, cs, bss, rfl, hg, e3⟩
      go_wp2
      go_ret2

      exact out_grow (hg.base he2.size) rfl (he2.trans e3)
    · rw [if_neg (fun h => hx h.2)]
      rw [hv] at A
      have hx2 : ((m : Int) != inL L0 0) = true := bne_t hx
      clear hv B C hM hx
      go_enter Try.func18, Try.ntmps18
      go_wp2_with fail
      refine (A.out _ (Ext.alloc _ _)).mono ?_
      rintro e w1 ⟨rfl, e1⟩
      have x1 := e1.cellOf (b := w.heap.size) (by simp)
      have he1 := (Ext.alloc w (.cells #[.slice p n c] 32)).trans e1
      go_wp2_with fail
      refine (B2.out _ he1).mono ?_
      rintro e w2 ⟨rfl, e2⟩
      go_wp2
      go_ret2
      exact outOk_no rfl (he1.trans e2)
theorem cur_le {l : List shLayer.T} (h : ModOk l) {x : List Nat} (hx : (x.length : Int) = inL l 0) {i : Nat} (hi : i < l.length) : (curF l x (i + 1)).length ≤ 8 := by
  have h2 := layF_len (h.lay i hi) (cur_len h hx i hi)
  rw [← curF_succ x hi] at h2
  have := layD_int (h.lay i hi)
  omega
set_option maxRecDepth 100000 in
set_option maxHeartbeats 4000000 in
theorem spec_ok (cs0 : List Value) (D0 : shModel.T) (cs1 : List Value) (D1 : List Nat) (w : World) (h0 : Rep w shModel cs0 D0) (h1 : Rep w (.sl .flt) cs1 D1) (f0 : Fit shModel D0) (_ : Fit (.sl .flt) D1) : Calls Try.prog 15 #[ofCs shModel cs0, ofCs (.sl .flt) cs1] w (OutOk w (.sl (.sl .flt)) (res D0 D1)) := by
  obtain ⟨L0, u0⟩ := D0
  obtain ⟨c0, c1, rfl, k0, rfl⟩ := h0
  obtain ⟨p, c, rfl, _⟩ := rep_val k0
  obtain ⟨p', c', css, he0, L⟩ := lays_of k0 f0.1
  cases he0
  obtain ⟨q, cq, us, rfl, hp, hf, hc, _⟩ := rep_flts.1 h1
  simp only [ofCs, Sh.agg, List.headD_cons, Bool.false_eq_true, if_false, if_true, List.append_nil]
  have e0 := Ext.alloc w (.cells #[.slice p L0.length c] 32)
  have f00 : (w.alloc (.cells #[.slice p L0.length c] 32)).cell? ⟨w.heap.size, 0, none⟩ = some (.slice p L0.length c) := by simp
  have hz0 : (w.alloc (.cells #[.slice p L0.length c] 32)).heap.size = w.heap.size + 1 := by simp
  have L2 := L.ext e0
  have A := hid (fun W (h : Ext (w.alloc (.cells #[.slice p L0.length c] 32)) W) => l03Is_any (sp := none) w.heap.size 0 p L0.length c L0 css W (h.cell f00) L.len L.le (L2.cs.ext h) (L2.all.imp fun _ _ => Rep.ext h) L.size L.cnt)
  have B := hid (fun W (h : Ext (w.alloc (.cells #[.slice p L0.length c] 32)) W) h1 => l03In_any (sp := none) w.heap.size 0 p L0.length c css L0 W (L2.ext h) h1 (h.cell f00))
  have hX := h1.ext e0
  unfold res
  dsimp only
  generalize hL : L0.length = n at *
  generalize hm : D1.length = m at *
  have HL := hid hL
  have HM := hid hm
  clear h1 k0 L hp hf hc hL hm
  cases hv : modB L0
  · rw [if_neg (by simp)]
    rw [hv] at A
    clear hv B f00 L2 hX
    go_enter Try.func15, Try.ntmps15
    go_wp2_with fail
    refine (A.out _ (Ext.refl _)).mono ?_
    rintro e w1 ⟨rfl, e1⟩
    go_wp2
    go_ret2
    exact outOk_no rfl (e0.trans e1)
  · have hM := modOk hv
    have hn : L0.length = n := HL.out
    have h1n : 1 ≤ n := by rw [← hn]; exact hM.pos
    have h6n : n ≤ 6 := by rw [← hn]; exact hM.few
    have B2 := hid (fun W h => B.out W h h1n)
    by_cases hx : (m : Int) = inL L0 0
    · rw [if_pos ⟨rfl, hx⟩]
      rw [hv] at A
      have HX := hid hx
      have hxl : (D1.length : Int) = inL L0 0 := by rw [HM.out]; exact hx
      have Hlay := hid hM.lay
      have Hlen := hid (cur_len hM hxl)
      have Hs := hid (fun i => @curF_succ L0 D1 i)
      have Hle := hid (fun i => @cur_le L0 hM D1 hxl i)
      rw [← hx] at B2
      clear hv B hn hM hx hxl
      have l1 := L2.cs; have l2 := L2.all; have l3 := L2.size; have l5 := hid L2.cnt
      clear L2
      go_enter Try.func15, Try.ntmps15
      go_wp2_with fail
      refine (A.out _ (Ext.refl _)).mono ?_
      rintro e w1 ⟨rfl, e1⟩
      go_wp2_with fail
      refine (B2.out _ e1).mono ?_
      rintro e w2 ⟨rfl, e2⟩
      have he2 := e1.trans e2
      have hs2 := he2.size
      rw [hz0] at hs2
      have hstart : (w2.alloc (.cells #[] 25)).ownsRow (w.heap.size + 1) 25 (Sh.sz (.sl .flt)) (.slice (some ⟨w2.heap.size, 0, none⟩) 0 0) 0 [] := World.ownsRow_made w2 #[] 0 (by omega) (by decide) rfl
      have eB := he2.trans (Ext.alloc w2 (.cells #[] 25))
      clear A B2 e1 e2 he2
      go_wp2
      go_loopw [1, 6, 7] (fun xv ov iv wr => ∃ (i : Nat) (css : List (List Value)) (bss : List (List Nat)) (q : Option Addr) (mq cq : Nat), i ≤ n ∧ iv = .int .i64 i ∧ xv = .slice q mq cq ∧ Hid (Rep wr (.sl .flt) [.slice q mq cq] (curF L0 D1 i)) ∧ GrowOwn wr (w.heap.size + 1) 25 (.sl .flt) ov (stF L0 D1 i) css bss ∧ Ext (w.alloc (.cells #[.slice p n c] 32)) wr) (fun _ _ iv _ => n - (intOf iv).toNat)
      case atStart => exact ⟨0, [], [], q, m, cq, by omega, rfl, rfl, hX.ext eB, GrowOwn.empty hstart, eB⟩
      case round =>
        clear hstart eB
        obtain ⟨i, cs, bss, q, mq, cq, hi, rfl, rfl, HR, hown, he⟩ := hrel
        have g0 := he.cell f00
        have hz := he.size
        rw [hz0] at hz
        by_cases hlt : i < n
        · have hil : i < L0.length := by rw [HL.out]; exact hlt
          obtain ⟨ci, hci, ri⟩ := l2.get i L0[i] (by simp)
          have hs1 := l1.some_of l3 (by decide) (show 0 < css.length by rw [l5.out]; omega)
          have hp := l1.ext he
          obtain ⟨us, x1, x2, x3, _⟩ := rep_flt1 HR.out
          have hlen := Hlen.out i hil
          rw [x1] at hlen
          have hle := Hle.out i hil
          have C := hid (l03Run_lay (adr p (i * 5)) ci L0[i] q mq cq us (curF L0 D1 i) wr (ri.ext he) (fun j v hv => fcell hp l3 l5.out hlt hci j (Ext.refl _) hv) (Hlay.out i hil) x1 hlen x2 x3)
          rw [← Hs.out i hil] at C
          have hrow := hown.row
          rw [stF_len] at hrow
          clear x1 x2 x3 hlen ri hci HR
          go_wp2_with (refine wl_idxE (j := i) rfl rfl rfl rfl rfl hs1 hlt ?_)
          refine C.out.mono ?_
          intro e w6 h6
          obtain ⟨q6, c6, b6, rfl, o6, n6, lo6, e6⟩ := retFl_thing h6
          obtain ⟨u6, y1, y2, y3, y4⟩ := rep_flt1 o6.rep
          have CO := hid (l02Own_any q6 (curF L0 D1 (i + 1)).length c6 u6 (curF L0 D1 (i + 1)) w6 rfl (by omega) y4 y2 y3)
          clear y1 y2 y3 y4 h6 C
          obtain ⟨m6, hm6⟩ : ∃ m, m = (curF L0 D1 (i + 1)).length := ⟨_, rfl⟩
          rw [← hm6] at o6 CO ⊢
          have HM6 := hid hm6
          clear hm6 hle
          go_wp2_with fail
          refine CO.out.mono ?_
          intro e w8 h8
          obtain ⟨q8, c8, b8, rfl, o8, n8, lo8, e8⟩ := retFl_thing h8
          rw [← HM6.out] at o8 ⊢
          have E8 := e6.trans e8
          have o6' := o6.ext e8
          clear h8 CO
          go_wp2_with ((with_reducible show wpList _ _ _ (Oper.mk _ (Op.buildSlice _ _ _) _ _ _ _ :: Oper.mk _ (Op.call _) _ _ _ _ :: _) _ _); refine wl_app1b (u := .slice q8 m6 c8) rfl rfl rfl rfl rfl (by rfl) (by rfl) (fun _ => rfl) (fun _ => rfl) (own_ext hrow E8) (by unfold maxLen; omega) (by omega) (by have := E8.size; omega) ?_; intro g c w7 h7 g7 hw7)
          go_roundw
          case rel =>
            have H7 := hown.snoc E8 o8 n8 (fun b hb => Nat.le_trans e6.size (lo8 b hb)) (by omega) (stF_len _ _ _) h7 g7 hw7
            have R7 := (o6'.chg (Chg.of_grown g7) (fun b hb h => by have := own_lt hrow b h.symm; have := lo6 b hb; omega)).rep
            refine ⟨i + 1, cs ++ [[.slice q8 m6 c8]], bss ++ [b8], q6, m6, c6, by omega, by go_num, rfl, R7, ?_, (he.trans E8).grown g7 (fun k hk => ?_)⟩
            · rw [stF_succ]; exact H7
            · have := own_le hrow k hk; have := own_lt hrow k hk; rw [hz0]; omega
          case measure => simp [intOf]; omega
        · obtain rfl : n = i := by omega
          go_wp2
          go_ret2

          exact out_grow (hown.base (Nat.le_succ _)) rfl (e0.trans he)
    · rw [if_neg (fun h => hx h.2)]
      rw [hv] at A
      have hx2 : ((m : Int) != inL L0 0) = true := bne_t hx
      clear hv B hM hx f00 L2 hX
      go_enter Try.func15, Try.ntmps15
      go_wp2_with fail
      refine (A.out _ (Ext.refl _)).mono ?_
      rintro e w1 ⟨rfl, e1⟩
      go_wp2_with fail
      refine (B2.out _ e1).mono ?_
      rintro e w2 ⟨rfl, e2⟩
      go_wp2
      go_ret2
      exact outOk_no rfl ((e0.trans e1).trans e2)
end Go.Proofs.Ytangnigplachdaa.lStagesOf
