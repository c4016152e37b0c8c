/- ServeRequests. -/
import Derived.Test.YtangnigplachdaaSrv
namespace Go.Proofs.Ytangnigplachdaa
set_option linter.unusedSimpArgs false
set_option linter.unusedVariables false
open Go.RowKit

section
variable {P : Program} {w : World} {ops : Array Oper} {rest : List Oper} {o : Oper} {a : Act} {Q : Exit → Act → World → Prop}
theorem run_minI {ρ : Operand → Value} {x y : Operand} {ts : Array TypeId} {u v : Int} (ho : o.op = .call { callee := .builtin .min, args := #[x, y], argTypes := ts }) (hx : ρ x = .int .i64 u) (hy : ρ y = .int .i64 v) : (execOp ρ o).run P w = .ok (.value (.int .i64 (min u v))) w := by
  have h : (if v < u then v else u) = min u v := by rw [Int.min_def]; split <;> split <;> omega
  simp [execOp, ho, hx, hy, go_sem, h]
theorem run_maxI {ρ : Operand → Value} {x y : Operand} {ts : Array TypeId} {u v : Int} (ho : o.op = .call { callee := .builtin .max, args := #[x, y], argTypes := ts }) (hx : ρ x = .int .i64 u) (hy : ρ y = .int .i64 v) : (execOp ρ o).run P w = .ok (.value (.int .i64 (max u v))) w := by
  have h : (if u < v then v else u) = max u v := by rw [Int.max_def]; split <;> split <;> omega
  simp [execOp, ho, hx, hy, go_sem, h]
theorem wl_minI {x y : Operand} {ts : Array TypeId} {u v : Int} (hg : o.guard = none) (ho : o.op = .call { callee := .builtin .min, args := #[x, y], argTypes := ts }) (hx : a.eval x = .int .i64 u) (hy : a.eval y = .int .i64 v)
    (h : wpList P ops Q rest (a.put o.dst (.int .i64 (min u v))) w) : wpList P ops Q (o :: rest) a w := wl_value hg (run_minI ho hx hy) h
theorem wl_maxI {x y : Operand} {ts : Array TypeId} {u v : Int} (hg : o.guard = none) (ho : o.op = .call { callee := .builtin .max, args := #[x, y], argTypes := ts }) (hx : a.eval x = .int .i64 u) (hy : a.eval y = .int .i64 v)
    (h : wpList P ops Q rest (a.put o.dst (.int .i64 (max u v))) w) : wpList P ops Q (o :: rest) a w := wl_value hg (run_maxI ho hx hy) h
end
/-- A batch ends. -/
theorem sv_end {A : Nat → Int} {n z : Nat} {wt wk free : Int} (h : SvOk A n z wt wk) {i k b : Nat} (hi : i < n) (h0 : 0 ≤ free) (hs : sv A n z wt wk i = (i, b, beg A n z wt free i)) (hk : i + k ≤ n) (hl : 1 ≤ k → sv A n z wt wk (i + k - 1) = (i, b, beg A n z wt free i))
    (hstop : i + k = n ∨ k = z ∨ (i + k < n ∧ beg A n z wt free i < A (i + k))) : 1 ≤ k ∧ (i + k < n → sv A n z wt wk (i + k) = (i + k, b + 1, beg A n z wt (beg A n z wt free i + wk) (i + k))) := by
  have hb := (beg_bd h hi (free := free) (F := max free 200000) h0 (by omega) (by omega)).2.2
  have hz := h.z1
  have hk1 : 1 ≤ k := by
    rcases Nat.eq_zero_or_pos k with h' | h'
    · subst h'
      rcases hstop with h' | h' | h'
      · omega
      · omega
      · rw [Nat.add_zero] at h'; omega
    · exact h'
  refine ⟨hk1, fun hlt => ?_⟩
  obtain ⟨j, rfl⟩ : ∃ j, k = j + 1 := ⟨k - 1, by omega⟩
  have hj := hl (by omega)
  rw [show i + (j + 1) - 1 = i + j by omega] at hj
  have := sv_next hj (wk := wk) (n := n) (z := z) (wt := wt) (A := A) (by
    rintro ⟨h1, h2⟩
    rw [show i + j + 1 = i + (j + 1) by omega] at h2
    rcases hstop with h' | h' | h'
    · omega
    · omega
    · omega)
  rw [show i + (j + 1) = i + j + 1 by omega]
  exact this
/-- A batch goes on. -/
theorem sv_go {A : Nat → Int} {n z : Nat} {wt wk free : Int} {i k b : Nat} (hs : sv A n z wt wk i = (i, b, beg A n z wt free i)) (hl : 1 ≤ k → sv A n z wt wk (i + k - 1) = (i, b, beg A n z wt free i)) (hk : k < z) (ha : A (i + k) ≤ beg A n z wt free i) : sv A n z wt wk (i + k) = (i, b, beg A n z wt free i) := by
  rcases Nat.eq_zero_or_pos k with h' | h'
  · subst h'; exact hs
  · obtain ⟨j, rfl⟩ : ∃ j, k = j + 1 := ⟨k - 1, by omega⟩
    have hj := hl (by omega)
    rw [show i + (j + 1) - 1 = i + j by omega] at hj
    have := sv_stay hj (wk := wk) (n := n) (z := z) (wt := wt) (A := A) (by omega) (by rw [show i + j + 1 = i + (j + 1) by omega]; exact ha)
    rw [show i + (j + 1) = i + j + 1 by omega]
    exact this
end Go.Proofs.Ytangnigplachdaa
namespace Go.Proofs.Ytangnigplachdaa.lServeRequests
open Go.RowKit

def okD (L : shModel.T) (l : shRequestS.T) (z wt wk : Int) : Prop := reqB L.1 l = true ∧ inB z 1 16 = true ∧ inB wt 0 100000 = true ∧ inB wk 1 100000 = true
instance (L : shModel.T) (l : shRequestS.T) (z wt wk : Int) : Decidable (okD L l z wt wk) := by unfold okD; infer_instance
def outF (L : List shLayer.T) (l : List shRequest.T) (j : Nat) : List Nat := curF L (rowR l j) L.length
def res (L : shModel.T) (l : shRequestS.T) (z wt wk : Int) : shAnswerS.T × Bool := if okD L l z wt wk then (ansL (outF L.1 l) (sv (atR l) (List.length l) z.toNat wt wk) wk (List.length l), true) else ([], false)
theorem res_no {L : shModel.T} {l : shRequestS.T} {z wt wk : Int} (h : ¬ okD L l z wt wk) : res L l z wt wk = ([], false) := by unfold res; rw [if_neg h]
theorem okD_of {L : shModel.T} {l : shRequestS.T} {z wt wk : Int} (h : okD L l z wt wk) : ∃ Z : Nat, z = Z ∧ ModOk L.1 ∧ ReqOk (inL L.1 0) l ∧ SvOk (atR l) (List.length l) Z wt wk ∧ (∀ j, j < List.length l → (outF L.1 l j).length ≤ 8) := by
  obtain ⟨h1, h2, h3, h4⟩ := h
  unfold reqB at h1
  simp only [Bool.and_eq_true, decide_eq_true_eq] at h1
  obtain ⟨g1, g2, g3⟩ := h1
  rw [inB_true] at h2 h3 h4
  have hM := modOk g1
  have hR := reqOk g3
  obtain ⟨Z, rfl⟩ := Int.eq_ofNat_of_zero_le (show 0 ≤ z by omega)
  refine ⟨Z, rfl, hM, hR, ⟨hR.lo, fun i k hk => hR.le k hk, by omega, by omega, h3, h4, g2⟩, fun j hj => ?_⟩
  have h5 := cur_out hM (x := rowR l j) (hR.len j hj)
  obtain ⟨m, hm, hm1, hm8⟩ := outL_nat hM
  unfold outF
  omega
theorem res_bd (L : shModel.T) (l : shRequestS.T) (z wt wk : Int) (_ : tot shModel L ≤ 1048576) (_ : tot shRequestS l ≤ 1048576) (_ : Fit shModel L) (_ : Fit shRequestS l) (_ : Fit .int z) (_ : Fit .int wt) (_ : Fit .int wk) : tot shAnswerS (res L l z wt wk).1 ≤ 1048576 := by
  by_cases h : okD L l z wt wk
  · obtain ⟨Z, rfl, hM, hR, hS, h8⟩ := okD_of h
    have h1 := tot_ans (outF L.1 l) (sv (atR l) (List.length l) (Z : Int).toNat wt wk) wk (List.length l) h8
    have h2 := hS.n20
    unfold res
    rw [if_pos h]
    show tot shAnswerS (ansL (outF L.1 l) (sv (atR l) (List.length l) (Z : Int).toNat wt wk) wk (List.length l)) ≤ _
    omega
  · rw [res_no h]; simp [tot]
set_option maxRecDepth 100000 in
set_option maxHeartbeats 4000000 in
theorem impl_ok (cs0 : List Value) (D0 : shModel.T) (cs1 : List Value) (D1 : shRequestS.T) (z wt wk : Int) (w : World) (h0 : Rep w shModel cs0 D0) (h1 : Rep w shRequestS cs1 D1) (f0 : Fit shModel D0) (_ : Fit shRequestS D1) (_ : Fit .int z) (_ : Fit .int wt) (_ : Fit .int wk) : Calls Try.prog 54 #[ofCs shModel cs0, ofCs shRequestS cs1, .int .i64 z, .int .i64 wt, .int .i64 wk] w (OutOk w shAnswerS (res D0 D1 z wt wk)) := by
  obtain ⟨L0, u0⟩ := D0
  obtain ⟨c0, c1, rfl, k0, rfl⟩ := h0
  obtain ⟨p, c, rfl, _⟩ := rep_val k0
  obtain ⟨p', c', css, he0, L⟩ := lays_of k0 f0.1
  cases he0
  obtain ⟨q, cq, csq, rfl, hnc, HR⟩ := reqs_of h1
  simp only [ofCs, Sh.agg, List.headD_cons, Bool.false_eq_true, if_false, if_true, List.append_nil]
  obtain ⟨W0, hW0⟩ : ∃ W0, W0 = w.alloc (.cells #[.slice p L0.length c] 32) := ⟨_, rfl⟩
  have E0 : Ext w W0 := by subst hW0; exact Ext.alloc _ _
  have a0 : W0.cell? ⟨w.heap.size, 0, none⟩ = some (.slice p L0.length c) := by subst hW0; simp
  have A := hid (areRequests_any p q L0.length c (List.length D1) cq css csq L0 D1 W0 (L.ext E0) (HR.ext E0))
  have B1 := hid (fun W => isSide_any z W)
  have B2 := hid (fun W => within_any wt 0 100000 W)
  have B3 := hid (fun W => within_any wk 1 100000 W)
  cases hb0 : reqB L0 D1
  · rw [res_no (fun h => by have := h.1; dsimp only at this; rw [hb0] at this; cases this)]
    rw [hb0] at A
    clear k0 L HR h1 f0
    generalize L0.length = n0 at *
    generalize List.length D1 = n at *
    go_enter Try.func54, Try.ntmps54
    go_wp2_with fail
    rw [← hW0]
    clear hW0
    refine A.out.mono ?_
    rintro e w1 ⟨rfl, e1⟩
    have m1 := e1.cell a0
    go_wp2
    go_ret2
    exact outOk_no rfl (E0.trans e1)
  rw [hb0] at A
  cases hb1 : inB z 1 16
  · rw [res_no (fun h => by have := h.2.1; rw [hb1] at this; cases this)]
    rw [hb1] at B1
    clear k0 L HR h1 f0
    generalize L0.length = n0 at *
    generalize List.length D1 = n at *
    go_enter Try.func54, Try.ntmps54
    go_wp2_with fail
    rw [← hW0]
    clear hW0
    refine A.out.mono ?_
    rintro e w1 ⟨rfl, e1⟩
    have m1 := e1.cell a0
    go_wp2_with fail
    refine (B1.out _).mono ?_
    rintro e w2 ⟨rfl, rfl⟩
    go_wp2
    go_ret2
    exact outOk_no rfl (E0.trans e1)
  rw [hb1] at B1
  cases hb2 : inB wt 0 100000
  · rw [res_no (fun h => by have := h.2.2.1; rw [hb2] at this; cases this)]
    rw [hb2] at B2
    clear k0 L HR h1 f0
    generalize L0.length = n0 at *
    generalize List.length D1 = n at *
    go_enter Try.func54, Try.ntmps54
    go_wp2_with fail
    rw [← hW0]
    clear hW0
    refine A.out.mono ?_
    rintro e w1 ⟨rfl, e1⟩
    have m1 := e1.cell a0
    go_wp2_with fail
    refine (B1.out _).mono ?_
    rintro e w2 ⟨rfl, rfl⟩
    go_wp2_with fail
    refine (B2.out _).mono ?_
    rintro e w3 ⟨rfl, rfl⟩
    go_wp2
    go_ret2
    exact outOk_no rfl (E0.trans e1)
  rw [hb2] at B2
  cases hb3 : inB wk 1 100000
  · rw [res_no (fun h => by have := h.2.2.2; rw [hb3] at this; cases this)]
    rw [hb3] at B3
    clear k0 L HR h1 f0
    generalize L0.length = n0 at *
    generalize List.length D1 = n at *
    go_enter Try.func54, Try.ntmps54
    go_wp2_with fail
    rw [← hW0]
    clear hW0
    refine A.out.mono ?_
    rintro e w1 ⟨rfl, e1⟩
    have m1 := e1.cell a0
    go_wp2_with fail
    refine (B1.out _).mono ?_
    rintro e w2 ⟨rfl, rfl⟩
    go_wp2_with fail
    refine (B2.out _).mono ?_
    rintro e w3 ⟨rfl, rfl⟩
    go_wp2_with fail
    refine (B3.out _).mono ?_
    rintro e w4 ⟨rfl, rfl⟩
    go_wp2
    go_ret2
    exact outOk_no rfl (E0.trans e1)
  rw [hb3] at B3
  have hok : okD (L0, u0) D1 z wt wk := ⟨hb0, hb1, hb2, hb3⟩
  obtain ⟨Z, rfl, hM, hRq, hS, _⟩ := okD_of hok
  have hres : res (L0, u0) D1 Z wt wk = (ansL (outF L0 D1) (sv (atR D1) (List.length D1) Z wt wk) wk (List.length D1), true) := by
    unfold res; rw [if_pos hok]; rfl
  rw [hres]
  dsimp only at hM hRq
  have St := hid (fun W (h : Ext W0 W) j (hj : j < List.length D1) q5 m5 c5 (hX : Rep W (.sl .flt) [.slice q5 m5 c5] (rowR D1 j)) => stages_any p q5 L0.length c m5 c5 css L0 (rowR D1 j) W (L.ext (E0.trans h)) hM hX (hRq.len j hj))
  have HSv := hid hS
  have hn20 := hS.n20
  have hz1 := hS.z1
  have hz16 := hS.z16
  have hwt := hS.wt0
  have hwk := hS.wk1
  have hn1 := hM.pos
  have hn6 := hM.few
  have Hlo := hid hS.lo
  have l1 := HR.cs; have l2 := HR.all; have l3 := HR.size; have l5 := hid HR.cnt
  have hF := hid (fun j => show curF L0 (rowR D1 j) L0.length = outF L0 D1 j from rfl)
  have Hbg := hid (fun i (hi : i < List.length D1) free F h0 h1 h2 => beg_bd hS hi (free := free) (F := F) h0 h1 h2)
  have Hend := hid (fun i k b free hi h0 hs hk hl hstop => sv_end hS (i := i) (k := k) (b := b) (free := free) hi h0 hs hk hl hstop)
  clear k0 L HR h1 f0 hb0 hb1 hb2 hb3 hok hM hRq hS hres
  generalize outF L0 D1 = f at *
  generalize hnn : List.length D1 = n at *
  have HN := hid hnn
  clear hnn
  generalize L0.length = n0 at *
  go_enter Try.func54, Try.ntmps54
  go_wp2_with fail
  rw [← hW0]
  clear hW0
  refine A.out.mono ?_
  rintro e w1 ⟨rfl, e1⟩
  have m1 := e1.cell a0
  go_wp2_with fail
  refine (B1.out _).mono ?_
  rintro e w2 ⟨rfl, rfl⟩
  go_wp2_with fail
  refine (B2.out _).mono ?_
  rintro e w3 ⟨rfl, rfl⟩
  go_wp2_with fail
  refine (B3.out _).mono ?_
  rintro e w4 ⟨rfl, rfl⟩
  have hst : (w1.alloc (.cells #[] 167)).ownsRow w1.heap.size 167 (Sh.sz shAnswer) (.slice (some ⟨w1.heap.size, 0, none⟩) 0 0) 0 [] := World.ownsRow_made w1 #[] 0 (Nat.le_refl _) (by decide) rfl
  have e2 := e1.trans (Ext.alloc w1 (.cells #[] 167))
  clear A B1 B2 B3
  go_wp2_with fail
  generalize hW2 : w1.alloc (.cells #[] 167) = W2 at *
  go_loopw [12, 13, 14] (fun ov fv bv wr => ∃ (i b : Nat) (free : Int) (q6 : Option Addr) (c6 : Nat) (cs : List (List Value)) (bss : List (List Nat)), i ≤ n ∧ ov = .slice q6 i c6 ∧ fv = .int .i64 free ∧ bv = .int .i64 b ∧ (i < n → Hid (sv (atR D1) n Z wt wk i = (i, b, beg (atR D1) n Z wt free i))) ∧ 0 ≤ free ∧ free ≤ 200000 + 100000 * i ∧ b ≤ i ∧ GrowOwn wr w1.heap.size 167 shAnswer (.slice q6 i c6) (ansL f (sv (atR D1) n Z wt wk) wk i) cs bss ∧ Ext W0 wr ∧ w1.heap.size ≤ wr.heap.size) (fun ov _ _ _ => match ov with | .slice _ i _ => n - i | _ => 0)
  case atStart => exact ⟨0, 0, 0, _, _, [], [], by omega, rfl, rfl, rfl, fun _ => rfl, by omega, by omega, by omega, GrowOwn.empty hst, e2, by rw [← hW2]; simp⟩
  case round =>
    clear hst e2 hW2
    obtain ⟨i, b, free, q6, c6, cs, bss, hi, rfl, rfl, rfl, HS, hf0, hf1, hbi, hg, he, hsz⟩ := hrel
    by_cases hlt : i < n
    · have hiD : i < List.length D1 := by rw [HN.out]; exact hlt
      have hp := l1.ext (E0.trans he)
      have hpr := rest_cs (s := 2) hp l3 l5.out (i := i) (by omega) hnc
      have hdl := hid (show (csq.drop i).length = n - i by rw [List.length_drop, l5.out])
      have hall : ∀ x ∈ csq.drop i, x.length = shRequest.sz := fun x hx => l3 x (List.mem_of_mem_drop hx)
      have hsr : (subp q 2 i cq).isSome = true := hpr.some_of (s := 2) hall (by decide) (i := 0) (by rw [hdl.out]; omega)
      obtain ⟨ci, hci, ri⟩ := l2.get i D1[i] (by simp)
      obtain ⟨pr, cr, rfl, _, _⟩ := req_cells ri
      rw [show D1[i].1 = atR D1 i from (atR_eq hiD).symm] at hci
      have hd0 := hid (show (csq.drop i)[0]? = some [.int .i64 (atR D1 i), .slice pr (List.length D1[i].2.1) cr] by rw [List.getElem?_drop, Nat.add_zero]; exact hci)
      have hai := Hlo.out i hlt
      obtain ⟨hb0, hb1, hb2⟩ := Hbg.out i hlt free (200000 + 100000 * i) hf0 hf1 (by omega)
      obtain ⟨B, hB⟩ : ∃ B, B = beg (atR D1) n Z wt free i := ⟨_, rfl⟩
      have hBB := hid hB
      rw [← hB] at hb0 hb1 hb2
      have HS2 := HS hlt
      have q1 : IntKind.i64.wrap (atR D1 i + wt) = atR D1 i + wt := wrap_in _ (by omega) (by omega)
      have qB : IntKind.i64.wrap (B + wk) = B + wk := wrap_in _ (by omega) (by omega)
      obtain ⟨rem, hrem⟩ : ∃ rem, rem = n - i := ⟨_, rfl⟩
      rw [← hrem] at hdl
      have Hrem := hid hrem
      have hr0 : 0 < rem := by omega
      clear ri hci HS hB
      by_cases hz : i + Z ≤ n
      case' pos =>
        have hizD : i + Z - 1 < List.length D1 := by rw [HN.out]; omega
        obtain ⟨cz, hcz, rz⟩ := l2.get (i + Z - 1) D1[i + Z - 1] (by simp)
        obtain ⟨pz, cz', rfl, _, _⟩ := req_cells rz
        rw [show D1[i + Z - 1].1 = atR D1 (i + Z - 1) from (atR_eq hizD).symm] at hcz
        have hdz := hid (show (csq.drop i)[Z - 1]? = some [.int .i64 (atR D1 (i + Z - 1)), .slice pz (List.length D1[i + Z - 1].2.1) cz'] by rw [List.getElem?_drop, show i + (Z - 1) = i + Z - 1 by omega]; exact hcz)
        have hbe : max (min (atR D1 i + wt) (atR D1 (i + Z - 1))) free = B := by rw [hBB.out]; unfold beg; rw [if_pos hz]; omega
        have hd1 : decide ((Z : Int) ≤ (rem : Int)) = true := by simp; omega
        have hd2 : decide (Z ≤ rem) = true := by simp; omega
        have qz : IntKind.i64.wrap ((Z : Int) - 1) = ((Z - 1 : Nat) : Int) := by rw [show (Z : Int) - 1 = ((Z - 1 : Nat) : Int) by omega]; exact wrap_in _ (by omega) (by omega)
        have hZr : Z - 1 < rem := by omega
        clear rz hcz hz
        go_wp2_with (first | (refine wl_sliceFrom (l := i) rfl rfl rfl rfl rfl (by omega) (by omega) ?_; rw [← hrem]; clear hrem) | ((with_reducible show wpList _ _ _ (Oper.mk _ (Op.indexAddr _ _ _) _ _ _ _ :: Oper.mk _ (Op.fieldAddr _ _ _) _ _ _ _ :: _) _ _); refine wl_ldField (f := 0) (off := 0) (j := 0) rfl rfl rfl rfl rfl rfl (fun _ => rfl) (fun _ _ => rfl) fo_implRequest_0 rfl rfl rfl hpr hall hdl.out (by omega) hsr hd0.out rfl ?_) | ((with_reducible show wpList _ _ _ (Oper.mk _ (Op.indexAddr _ _ _) _ _ _ _ :: Oper.mk _ (Op.fieldAddr _ _ _) _ _ _ _ :: _) _ _); refine wl_ldField (f := 0) (off := 0) (j := Z - 1) rfl rfl rfl rfl rfl rfl (fun _ => rfl) (fun _ _ => rfl) fo_implRequest_0 rfl rfl (by first | exact qz | omega) hpr hall hdl.out hZr hsr hdz.out rfl ?_) | (refine wl_minI rfl rfl rfl rfl ?_) | (refine wl_maxI rfl rfl rfl rfl ?_; rw [hbe]))
      case' neg =>
        have hbe : max (atR D1 i + wt) free = B := by rw [hBB.out]; unfold beg; rw [if_neg hz]; omega
        have hd1 : decide ((Z : Int) ≤ (rem : Int)) = false := by simp; omega
        have hd2 : decide (Z ≤ rem) = false := by simp; omega
        clear hz
        go_wp2_with (first | (refine wl_sliceFrom (l := i) rfl rfl rfl rfl rfl (by omega) (by omega) ?_; rw [← hrem]; clear hrem) | ((with_reducible show wpList _ _ _ (Oper.mk _ (Op.indexAddr _ _ _) _ _ _ _ :: Oper.mk _ (Op.fieldAddr _ _ _) _ _ _ _ :: _) _ _); refine wl_ldField (f := 0) (off := 0) (j := 0) rfl rfl rfl rfl rfl rfl (fun _ => rfl) (fun _ _ => rfl) fo_implRequest_0 rfl rfl rfl hpr hall hdl.out (by omega) hsr hd0.out rfl ?_) | (refine wl_maxI rfl rfl rfl rfl ?_; rw [hbe]))
      all_goals
        have hrn : rem + i = n := by have := Hrem.out; omega
        have e17 := he
        go_loopw [12, 77] (fun ov kv wq => ∃ (k : Nat) (q7 : Option Addr) (c7 : Nat) (cs7 : List (List Value)) (bss7 : List (List Nat)), k ≤ rem ∧ k ≤ Z ∧ kv = .int .i64 k ∧ ov = .slice q7 (i + k) c7 ∧ (1 ≤ k → Hid (sv (atR D1) n Z wt wk (i + k - 1) = (i, b, beg (atR D1) n Z wt free i))) ∧ GrowOwn wq w1.heap.size 167 shAnswer (.slice q7 (i + k) c7) (ansL f (sv (atR D1) n Z wt wk) wk (i + k)) cs7 bss7 ∧ Ext W0 wq ∧ wr.heap.size ≤ wq.heap.size) (fun _ kv _ => rem - (intOf kv).toNat)
        case atStart => exact ⟨0, q6, c6, cs, bss, by omega, by omega, rfl, rfl, fun h => by omega, hg, he, Nat.le_refl _⟩
        case round =>
          clear hg
          obtain ⟨k, q7, c7, cs7, bss7, hk, hkz, rfl, rfl, HL, hg7, he7, hsz7⟩ := hrel
          have he7' := he7
          by_cases hkr : k < rem
          · have hkD : i + k < List.length D1 := by rw [HN.out]; omega
            obtain ⟨ck0, hck, rk⟩ := l2.get (i + k) D1[i + k] (by simp)
            have one := rk.one
            obtain ⟨pk, ck, rfl, rrk, hmk⟩ := req_cells rk
            have ea : D1[i + k].1 = atR D1 (i + k) := (atR_eq hkD).symm
            have er : D1[i + k].2.1 = rowR D1 (i + k) := (rowR_eq hkD).symm
            rw [ea, er] at hck one
            rw [er] at rrk hmk
            have hdk0 : (csq.drop i)[k]? = csq[i + k]? := by rw [List.getElem?_drop]
            rw [hck] at hdk0
            have St2 := hid (fun W (h : Ext wr W) => St.out W (he7.trans h) (i + k) (by omega) pk _ ck (rrk.ext (E0.trans (he7.trans h))))
            generalize (rowR D1 (i + k)).length = m at *
            have hdk := hid hdk0
            have hprk := rest_cs (s := 2) (l1.ext (E0.trans he7)) l3 l5.out (i := i) (by omega) hnc
            have Hlok := Hlo.out (i + k) (by omega)
            clear hdk0 hck rk rrk ea er hmk
            by_cases hkZ : k = Z
            · have hE := beq_t (show (k : Int) = (Z : Int) by omega)
              have HkZ := hid hkZ
              clear hkZ
              go_wp2_with (first | ((with_reducible show wpList _ _ _ (Oper.mk _ (Op.indexAddr _ _ _) _ _ _ _ :: Oper.mk _ (Op.load _ _) _ _ _ _ :: _) _ _); refine wl_idxloadE (s := shRequest) (j := k) rfl rfl rfl rfl (fun _ => rfl) rfl rfl rfl hprk hall hdl.out hkr hsr hdk.out ?_; simp only [ofCs, Sh.agg, if_true]) | ((with_reducible show wpList _ _ _ (Oper.mk _ (Op.store _ _ _) _ _ _ _ :: _) _ _); refine wl_stA (s := shRequest) (cs := [.int .i64 (atR D1 (i + k)), .slice pk m ck]) rfl rfl rfl rfl (heap_alloc_new _ _) rfl rfl one (by decide) ?_; intro w5 c5 ch5; have E5 : Ext wr w5 := (Ext.alloc _ _).chg ch5 (fun b hb => by subst hb; exact Nat.le_refl _); clear ch5; have b0 := cs_cellq c5 0 rfl; have b1 := cs_cellq c5 1 rfl; have m0 := (he7.trans E5).cell a0))
              replace he7' := he7'.trans E5
              replace hg7 := hg7.ext E5
              have HE := Hend.out i k b free hlt hf0 HS2.out (by omega) (fun h => (HL h).out) (.inr (.inl HkZ.out))
              rw [← hBB.out] at HE
              go_roundw
              case rel => exact ⟨i + k, b + 1, B + wk, q7, c7, cs7, bss7, by omega, rfl, rfl, by go_num, fun h => HE.2 h, by omega, by have := HE.1; push_cast; omega, by have := HE.1; omega, hg7, he7', by have := hsz7; have := E5.size; omega⟩
              case measure => have := HE.1; simp; omega
            · have hE := beq_f (show ¬ (k : Int) = (Z : Int) by omega)
              by_cases hA : atR D1 (i + k) ≤ B
              · have hT := decide_eq_false (show ¬ B < atR D1 (i + k) by omega)
                have HG := hid (sv_go (k := k) HS2.out (fun h => (HL h).out) (by omega) (by rw [← hBB.out]; exact hA))
                go_wp2_with (first | ((with_reducible show wpList _ _ _ (Oper.mk _ (Op.indexAddr _ _ _) _ _ _ _ :: Oper.mk _ (Op.load _ _) _ _ _ _ :: _) _ _); refine wl_idxloadE (s := shRequest) (j := k) rfl rfl rfl rfl (fun _ => rfl) rfl rfl rfl hprk hall hdl.out hkr hsr hdk.out ?_; simp only [ofCs, Sh.agg, if_true]) | ((with_reducible show wpList _ _ _ (Oper.mk _ (Op.store _ _ _) _ _ _ _ :: _) _ _); refine wl_stA (s := shRequest) (cs := [.int .i64 (atR D1 (i + k)), .slice pk m ck]) rfl rfl rfl rfl (heap_alloc_new _ _) rfl rfl one (by decide) ?_; intro w5 c5 ch5; have E5 : Ext wr w5 := (Ext.alloc _ _).chg ch5 (fun b hb => by subst hb; exact Nat.le_refl _); clear ch5; have b0 := cs_cellq c5 0 rfl; have b1 := cs_cellq c5 1 rfl; have m0 := (he7.trans E5).cell a0))
                refine (St2.out _ E5).mono ?_
                rintro e w6 ⟨v6, css6, bss6, rfl, g6, e6⟩
                obtain ⟨p8, k8, q8, m8, c8, css8, bs8, rfl, hp8, hall8, hcnt8, hs8, hget8, own8, nd8, lo8, len8⟩ := IsSt.lastOwn ⟨css6, bss6, g6⟩ hn1
                rw [hF.out] at own8 len8
                have len8 := hid len8
                have EW := E5.trans e6
                have hrow7 := hg7.row
                rw [ansL_len] at hrow7
                have qn : IntKind.i64.wrap ((n0 : Int) - 1) = ((n0 - 1 : Nat) : Int) := by rw [show (n0 : Int) - 1 = ((n0 - 1 : Nat) : Int) by omega]; exact wrap_in _ (by omega) (by omega)
                clear g6
                go_wp2_with (first | ((with_reducible show wpList _ _ _ (Oper.mk _ (Op.indexAddr _ _ _) _ _ _ _ :: Oper.mk _ (Op.load _ _) _ _ _ _ :: _) _ _); refine wl_idxloadE (s := (.sl .flt)) (j := n0 - 1) rfl rfl rfl rfl (fun _ => rfl) rfl rfl (by first | rfl | exact qn | omega) hp8 hall8 hcnt8 (by omega) hs8 hget8 ?_; simp only [ofCs, Sh.agg, List.headD_cons, Bool.false_eq_true, if_false]) | ((with_reducible show wpList _ _ _ (Oper.mk _ (Op.buildSlice _ _ _) _ _ _ _ :: Oper.mk _ (Op.call _) _ _ _ _ :: _) _ _); refine wl_app1b (u := .agg #[.int .i64 (B + wk), .int .i64 b, .slice q8 m8 c8]) rfl rfl rfl rfl rfl (by rfl) (by rfl) (fun _ => rfl) (fun _ => rfl) (own_ext hrow7 EW) (by unfold maxLen; omega) (by omega) (by have := hsz7; have := EW.size; omega) ?_; intro g9 c9 w9 own9 gr9 hw9))
                go_roundw
                case rel =>
                  have H9 := hg7.snoc EW (own_ans (a := B + wk) (b := (b : Int)) len8.out own8) nd8 (fun b hb => Nat.le_trans E5.size (lo8 b hb)) (by have := hsz7; omega) (ansL_len _ _ _ _) own9 gr9 hw9
                  have H10 : ansL f (sv (atR D1) n Z wt wk) wk (i + (k + 1)) = ansL f (sv (atR D1) n Z wt wk) wk (i + k) ++ [(B + wk, (b : Int), f (i + k), ())] := by
                    rw [show i + (k + 1) = i + k + 1 by omega, ansL_succ, HG.out, hBB.out]
                  rw [← H10] at H9
                  exact ⟨k + 1, _, _, _, _, by omega, by omega, by go_num, rfl, fun _ => HG.out, H9, (he7.trans EW).grown gr9 (fun kk hk9 => by have := own_le hrow7 kk hk9; have := e1.size; omega), by have := hsz7; have := EW.size; have := gr9.size; omega⟩
                case measure => simp [intOf]; omega
              · have hT := decide_eq_true (show B < atR D1 (i + k) by omega)
                go_wp2_with (first | ((with_reducible show wpList _ _ _ (Oper.mk _ (Op.indexAddr _ _ _) _ _ _ _ :: Oper.mk _ (Op.load _ _) _ _ _ _ :: _) _ _); refine wl_idxloadE (s := shRequest) (j := k) rfl rfl rfl rfl (fun _ => rfl) rfl rfl rfl hprk hall hdl.out hkr hsr hdk.out ?_; simp only [ofCs, Sh.agg, if_true]) | ((with_reducible show wpList _ _ _ (Oper.mk _ (Op.store _ _ _) _ _ _ _ :: _) _ _); refine wl_stA (s := shRequest) (cs := [.int .i64 (atR D1 (i + k)), .slice pk m ck]) rfl rfl rfl rfl (heap_alloc_new _ _) rfl rfl one (by decide) ?_; intro w5 c5 ch5; have E5 : Ext wr w5 := (Ext.alloc _ _).chg ch5 (fun b hb => by subst hb; exact Nat.le_refl _); clear ch5; have b0 := cs_cellq c5 0 rfl; have b1 := cs_cellq c5 1 rfl; have m0 := (he7.trans E5).cell a0))
                replace he7' := he7'.trans E5
                replace hg7 := hg7.ext E5
                have HE := Hend.out i k b free hlt hf0 HS2.out (by omega) (fun h => (HL h).out) (.inr (.inr ⟨by omega, by rw [← hBB.out]; omega⟩))
                rw [← hBB.out] at HE
                go_roundw
                case rel => exact ⟨i + k, b + 1, B + wk, q7, c7, cs7, bss7, by omega, rfl, rfl, by go_num, fun h => HE.2 h, by omega, by have := HE.1; push_cast; omega, by have := HE.1; omega, hg7, he7', by have := hsz7; have := E5.size; omega⟩
                case measure => have := HE.1; simp; omega
          · obtain rfl : k = rem := by omega
            go_wp2
            have HE := Hend.out i k b free hlt hf0 HS2.out (by omega) (fun h => (HL h).out) (.inl (by omega))
            rw [← hBB.out] at HE
            go_roundw
            case rel => exact ⟨i + k, b + 1, B + wk, q7, c7, cs7, bss7, by omega, rfl, rfl, by go_num, fun h => HE.2 h, by omega, by have := HE.1; push_cast; omega, by have := HE.1; omega, hg7, he7', by have := hsz7; omega⟩
            case measure => have := HE.1; simp; omega
    · obtain rfl : i = n := by omega
      go_wp2
      go_ret2
      obtain ⟨bs, ho, hnd, hlo⟩ := hg.own
      exact ⟨[.slice q6 i c6], bs, rfl, ho, hnd, fun b hb => Nat.le_trans (E0.trans e1).size (hlo b hb), E0.trans he⟩
end Go.Proofs.Ytangnigplachdaa.lServeRequests
