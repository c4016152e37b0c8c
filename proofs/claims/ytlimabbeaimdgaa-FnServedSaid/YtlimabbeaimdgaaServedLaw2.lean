/- The law FnServed answers true at every input: the walk. -/
import Derived.Test.YtlimabbeaimdgaaKg
import Derived.Test.YtlimabbeaimdgaaR8S
import Derived.Test.YtlimabbeaimdgaaConfusionLaw
import Derived.Test.YtlimabbeaimdgaaOutLt
import Derived.Test.YtlimabbeaimdgaaFldW
namespace Go.Proofs.Ytlimabbeaimdgaa.lServed
set_option linter.unusedSimpArgs false
set_option linter.unusedVariables false
open Go.RowKit

theorem reqGo_of {I : Nat} {l : List shRequest.T} {a : Int} (h : ReqG I l a) (ha : a ≤ 100000) : ∀ k, k ≤ l.length → reqGo I (prevA l (l.length - k)) (l.drop (l.length - k)) = true
  | 0, _ => by rw [Nat.sub_zero, List.drop_of_length_le (Nat.le_refl _)]; rfl
  | k + 1, hk => by
    have ih := reqGo_of h ha k (by omega)
    obtain ⟨i, hi⟩ : ∃ i, i = l.length - (k + 1) := ⟨_, rfl⟩
    have hi1 : l.length - k = i + 1 := by omega
    have hil : i < l.length := by omega
    rw [hi1] at ih
    rw [← hi, reqGo_at hil, ih, ← atR_eq hil]
    have h1 := h.lo i hil
    have h2 := (h.len i hil).1
    rw [rowR_eq hil] at h2
    have e1 : inB (atR l i) 0 100000 = true := inB_true.2 (by omega)
    have e2 : ordB (prevA l i) (atR l i) = true := by
      cases i with
      | zero => rfl
      | succ j =>
        have h3 := h.mono j 1 (by omega)
        have h4 : prevA l (j + 1) = some (atR l j) := by
          show l[j]?.map (fun d => d.1) = some (atR l j)
          rw [atR_eq (show j < l.length by omega), List.getElem?_eq_getElem (show j < l.length by omega)]; rfl
        rw [h4]
        simp only [ordB, Bool.not_eq_true', decide_eq_false_iff_not]
        omega
    rw [e1, e2]
    simp [h2]
theorem reqB_of {I : Nat} {L : List shLayer.T} {l : List shRequest.T} {a : Int} (hm : modB L = true) (hI : (I : Int) = inL L 0) (h : ReqG I l a) (hl : l.length ≤ 8) : reqB L l = true := by
  have ha := h.a0
  have := reqGo_of h (by omega) l.length (Nat.le_refl _)
  rw [Nat.sub_self, List.drop_zero] at this
  unfold reqB
  rw [hm, ← hI]
  have h2 : reqGo I none l = true := this
  rw [h2]
  simp; omega
theorem rowsM_one (L : List shLayer.T) {xs : List Nat} {I : Nat} (h : xs.length = I) : rowsM L xs I 1 = curF L xs L.length := by
  have : rowT xs I 0 = xs := by unfold rowT; rw [Nat.zero_mul, List.drop_zero, Nat.zero_add, Nat.one_mul, ← h, List.take_length]
  simp [rowsM, this]
theorem ans_cells {w : World} {cs : List Value} {d : shAnswer.T} (h : Rep w shAnswer cs d) : ∃ p c us, cs = [.int .i64 d.1, .int .i64 d.2.1, .slice p (d.2.2.1 : List Nat).length c] ∧ Cs w p us ∧ F32s us d.2.2.1 := by
  obtain ⟨a1, a2, a3, au⟩ := d
  obtain ⟨_, _, rfl, rfl, _, _, rfl, rfl, _, _, rfl, h2, rfl⟩ := h
  obtain ⟨p, c, us, rfl, h3, h4, _⟩ := rep_flts.1 h2
  exact ⟨p, c, us, rfl, h3, h4⟩
theorem sizes_res {A : Nat → Int} {z : Nat} {wt wk : Int} (hz : 1 ≤ z) (f : Nat → List Nat) {n : Nat} (hn : n ≤ 8) (m : Nat) : ∃ o, lBatchSizes.res (ansL f (sv A m z wt wk) wk n) = (o, true) ∧ o.length ≤ n ∧ ∀ x ∈ o, 1 ≤ x ∧ x ≤ z := by
  have hl : (ansL f (sv A m z wt wk) wk n).length ≤ 20 := by rw [ansL_len]; omega
  unfold lBatchSizes.res
  rw [if_pos hl]
  cases n with
  | zero => exact ⟨[], rfl, by simp, fun x hx => by simp at hx⟩
  | succ j =>
    obtain ⟨o, h1, h2⟩ := sizes_ok (A := A) (n := m) (wt := wt) (wk := wk) hz f j
    have := lBatchSizes.go_len _ _ _ h1
    rw [ansL_len] at this
    exact ⟨o, by rw [h1]; rfl, by simpa using this, h2.all⟩
theorem delay_res {l : List shRequest.T} {z : Nat} {wt wk : Int} (h : Tight (atR l) l.length z wt wk) (f : Nat → List Nat) : lLongestDelay.res l (ansL f (sv (atR l) l.length z wt wk) wk l.length) = (mx (atR l) (sv (atR l) l.length z wt wk) wk l.length, true) := by
  have hd := del_ok h f l.length (Nat.le_refl _)
  rw [Nat.sub_self, List.drop_zero, List.drop_zero] at hd
  have hd2 : lLongestDelay.delGo l (ansL f (sv (atR l) l.length z wt wk) wk l.length) 0 = some (mx (atR l) (sv (atR l) l.length z wt wk) wk l.length) := hd
  unfold lLongestDelay.res
  have h8 := h.n8
  rw [ansL_len, decide_eq_true (show l.length ≤ 20 by omega), decide_eq_true (rfl : l.length = l.length), hd2]
  rfl
set_option maxRecDepth 100000 in
set_option maxHeartbeats 40000000 in
theorem law_any (p0 q0 : Option Addr) (n0 c0 m0 d0 : Nat) (bs ms : List Nat) (w : World) (hc0 : Cs w p0 (u8s bs)) (hl0 : bs.length = n0) (hb0 : ∀ b ∈ bs, b < 256) (hd0 : Cs w q0 (u8s ms)) (hm0 : ms.length = m0) (hb1 : ∀ b ∈ ms, b < 256) :
    Calls Try.prog 8 #[.slice p0 n0 c0, .slice q0 m0 d0] w fun e w' => e = .returned (.bool true) ∧ Ext w w' := by
  go_enter Try.func8, Try.ntmps8
  go_wp2_with fail
  refine (lNumberBytes.r8Long_any _ _ _ _ _ _ _).mono ?_
  rintro e w1 ⟨rfl, rfl⟩
  by_cases hlong : 48 < n0 ∨ 48 < m0
  · have hd : (decide (48 < n0) || decide (48 < m0)) = true := by simpa using hlong
    rw [hd]
    go_wp2
    go_ret
    exact ⟨rfl, Ext.refl _⟩
  have hn0 : n0 ≤ 48 := by omega
  have hmm0 : m0 ≤ 48 := by omega
  have hd : (decide (48 < n0) || decide (48 < m0)) = false := by simp; omega
  rw [hd]
  clear hd hlong
  go_wp2_with fail
  refine (R8Any_any p0 n0 c0 bs _ hc0 hl0 (by omega) hb0).mono ?_
  rintro e w1 ⟨L, q, c, rfl, hmod, hfit, ho, e1⟩
  have hM := modOk hmod
  obtain ⟨O, hO, hO1, hO8⟩ := outL_nat hM
  obtain ⟨I, hI, hI1, hI8⟩ := lConfusion.inL_nat hM
  obtain ⟨obs, ow, _⟩ := ho
  obtain ⟨p', c', css, hv, LY⟩ := lays_of ow.rep hfit
  cases hv
  have hrepL := ow.rep
  have b5 := HB.new w1 #[.slice q L.length c] 33
  have e2 := Ext.alloc w1 (.cells #[.slice q L.length c] 33)
  obtain ⟨w2, hw2⟩ : ∃ w2, w2 = w1.alloc (.cells #[.slice q L.length c] 33) := ⟨_, rfl⟩
  rw [← hw2] at b5 e2
  have E2 := e1.trans e2
  have hL1 := hM.pos
  have hLY := LY.ext e2
  have hrepL := hrepL.ext e2
  obtain ⟨di, j1, j2, _, k4⟩ := hLY.at (i := 0) (by omega)
  rw [← hI] at j2
  have l1 := hLY.cs; have l3 := hLY.size; have l5 := hLY.cnt
  have J1 := hid j1; have J2 := hid j2
  have hfL := hid hfit
  have hML := hid hM
  have HO := hid hO
  have HI := hid hI
  have hmodL := hid hmod
  have hrepL := hid hrepL
  clear j1 j2 LY hLY ow hO hI hM hmod hfit
  obtain ⟨n, hn⟩ : ∃ n, n = L.length := ⟨_, rfl⟩
  rw [← hn] at l5 hL1 hrepL b5 hw2 ⊢
  have HN := hid hn
  have L5 := hid l5
  clear hn l5
  have r5 := b5.cell 0 rfl
  have r5' := r5
  rw [hw2] at r5'
  have l1' := l1
  rw [hw2] at l1'
  go_wp2_with (first | ((with_reducible show wpList _ _ _ (Oper.mk _ (Op.indexAddr _ _ _) _ _ _ _ :: Oper.mk _ (Op.fieldAddr _ _ _) _ _ _ _ :: _) _ _); refine wl_ldField (f := 1) (off := 1) (j := 0) rfl rfl rfl rfl rfl rfl (fun _ => rfl) (fun _ _ => rfl) fo_implLayer_1 rfl rfl rfl l1' l3 L5.out (by omega) k4 J1.out J2.out ?_) | fail)
  rw [← hw2]
  clear hw2 r5' l1'
  refine (R8Requests_any q0 m0 d0 ms I w2 (hd0.ext E2) hm0 (by omega) hb1 hI8).mono ?_
  rintro e w3 ⟨l, a, rq, rcap, rfl, hl8, HQ, hrepR, e3⟩
  have E3 := E2.trans e3
  go_wp2_with fail
  refine (r8At_any q0 m0 d0 ms 40 4 w3 (hd0.ext E3) hm0 (by omega) hb1 (by omega)).mono ?_
  rintro e w4 ⟨x, rfl, hx, rfl⟩
  have hx := hx (by omega)
  obtain ⟨z, hz⟩ : ∃ R : Nat, (1 : Int) + (x : Int) = (R : Int) := ⟨1 + x, by omega⟩
  have hz1 : 1 ≤ z ∧ z ≤ 4 := by omega
  clear hx
  go_wp2_with fail
  refine (r8At_any q0 m0 d0 ms 41 8 w3 (hd0.ext E3) hm0 (by omega) hb1 (by omega)).mono ?_
  rintro e w4 ⟨wt, rfl, hwt, rfl⟩
  have hwt := hwt (by omega)
  go_wp2_with fail
  refine (r8At_any q0 m0 d0 ms 42 6 w3 (hd0.ext E3) hm0 (by omega) hb1 (by omega)).mono ?_
  rintro e w4 ⟨y, rfl, hy, rfl⟩
  have hy := hy (by omega)
  obtain ⟨wk, hwk⟩ : ∃ R : Nat, (1 : Int) + (y : Int) = (R : Int) := ⟨1 + y, by omega⟩
  have hwk1 : 1 ≤ wk ∧ wk ≤ 6 := by omega
  clear hy
  have ha0 := HQ.a0
  have hTi : Tight (atR l) l.length z wt wk := ⟨fun i hi => by have := HQ.lo i hi; omega, HQ.mono, hl8, hz1.1, hz1.2, by omega, by omega⟩
  have hreq := reqB_of hmodL.out HI.out HQ hl8
  have hok : lServeRequests.okD (L, ()) l z wt wk := ⟨hreq, inB_true.2 (by omega), inB_true.2 (by omega), inB_true.2 (by omega)⟩
  have fi : ∀ z : Nat, z ≤ 100 → Fit .int (z : Int) := fun z hz => by
    have : -9223372036854775808 ≤ (z : Int) ∧ (z : Int) ≤ 9223372036854775807 := by omega
    exact this
  have hfr : Fit shRequestS l := fun d hd => by
    obtain ⟨i, hi, rfl⟩ := List.mem_iff_getElem.1 hd
    have h1 := HQ.lo i hi
    have h2 := (HQ.len i hi).2
    rw [rowR_eq hi] at h2
    rw [atR_eq hi] at h1
    have h3 : ∀ v : Int, 0 ≤ v ∧ v ≤ a → -9223372036854775808 ≤ v ∧ v ≤ 9223372036854775807 := fun v hv => by omega
    exact ⟨h3 _ h1, h2, trivial⟩
  have CS := lServeRequests.impl_ok [.slice q n c] (L, ()) [.slice rq l.length rcap] l z wt wk w3 ⟨[.slice q n c], [], rfl, hrepL.out.ext e3, rfl⟩ hrepR ⟨hfL.out, trivial⟩ hfr (fi z (by omega)) (fi wt (by omega)) (fi wk (by omega))
  have hres : lServeRequests.res (L, ()) l z wt wk = (ansL (lServeRequests.outF L l) (sv (atR l) l.length z wt wk) wk l.length, true) := by
    unfold lServeRequests.res
    rw [if_pos hok, Int.toNat_natCast]
  simp only [hres, ofCs, Sh.agg, if_true, List.append_nil, List.headD_cons, Bool.false_eq_true, if_false] at CS
  have hal := ansL_len (lServeRequests.outF L l) (sv (atR l) l.length z wt wk) wk l.length
  have HAT := hid (fun i (hi : i < l.length) => ans_at (wk := (wk : Int)) (lServeRequests.outF L l) (sv (atR l) l.length z wt wk) hi)
  have r6 := e3.cell r5
  clear hres hok hreq
  go_wp2_with fail
  refine CS.mono ?_
  rintro e w5 ⟨cs5, bs5, rfl, o5, _, _, e5⟩
  obtain ⟨sz, hsz1, hsz2, hsz3⟩ := sizes_res (A := atR l) (wt := (wt : Int)) (wk := (wk : Int)) hz1.1 (lServeRequests.outF L l) hl8 l.length
  have hdel := delay_res hTi (lServeRequests.outF L l)
  have CB := fun W (h : Ext w5 W) => lBatchSizes.impl_ok cs5 _ W (Rep.ext h o5.rep)
  have CD := fun W (h : Ext w5 W) => lLongestDelay.impl_ok [.slice rq l.length rcap] l cs5 _ W ((hrepR.ext e5).ext h) (Rep.ext h o5.rep)
  simp only [hsz1] at CB
  simp only [hdel] at CD
  obtain ⟨ap, ac, dss, rfl, d1, _, _, d5, d6, d7⟩ := rep_sl o5.rep
  rw [hal] at d7 CB CD ⊢
  simp only [ofCs, Sh.agg, if_true, List.append_nil, List.headD_cons, Bool.false_eq_true, if_false] at CB CD ⊢
  have HD5 := hid d5
  have HTi := hid hTi
  have hsvt := hid (sv_t hTi)
  have hsve := hid (fun j => sv_eq (A := atR l) (n := l.length) (z := z) (wt := wt) (wk := wk) j)
  have hdue := hid (fun i fr => due_ok (A := atR l) (n := l.length) (wt := (wt : Int)) hz1.1 i fr)
  have hmxb := hid (mx_bd hTi)
  have hmxs := hid (fun k => show mx (atR l) (sv (atR l) l.length z wt wk) wk (k + 1) = max (mx (atR l) (sv (atR l) l.length z wt wk) wk k) ((sv (atR l) l.length z wt wk k).2.2 + wk - atR l k) from rfl)
  have hmx0 : mx (atR l) (sv (atR l) l.length z wt wk) wk 0 = 0 := rfl
  have hsv0 : sv (atR l) l.length z wt wk 0 = (0, 0, beg (atR l) l.length z wt 0 0) := rfl
  have HQ2 := hid HQ
  obtain ⟨rp, rc2, rss, hrv, r1, _, _, r5b, r6b, r7b⟩ := rep_sl (hrepR.ext e5)
  cases hrv
  have HR5 := hid r5b
  have CM := hid (fun i (hi : i < l.length) W (h : Ext w5 W) (pr : Option Addr) (cr : Nat) (hr : Rep W (.sl .flt) [.slice pr I cr] (rowR l i)) => lRunModel.impl_ok [.slice q n c] (L, ()) [.int .i64 1, .int .i64 I, .slice pr I cr] ((1 : Int), (I : Int), rowR l i, ()) W ⟨[.slice q n c], [], rfl, ((hrepL.out.ext e3).ext e5).ext h, rfl⟩ ⟨[.int .i64 1], [.int .i64 I, .slice pr I cr], rfl, rfl, ⟨[.int .i64 I], [.slice pr I cr], rfl, rfl, ⟨[.slice pr I cr], [], rfl, hr, rfl⟩⟩⟩ ⟨hfL.out, trivial⟩ ⟨fi 1 (by omega), fi I (by omega), (HQ.len i hi).2, trivial⟩)
  have hresM := hid (fun i (hi : i < l.length) => show lRunModel.res (L, ()) ((1 : Int), (I : Int), rowR l i, ()) = (((1 : Int), (O : Int), lServeRequests.outF L l i, ()), true) by
    have hlen := (HQ.len i hi).1
    unfold lRunModel.res
    rw [if_pos]
    · show (((1 : Int), outL L, rowsM L (rowR l i) (I : Int).toNat (1 : Int).toNat, ()), true) = _
      rw [← HO.out, Int.toNat_natCast, show (1 : Int).toNat = 1 from rfl, rowsM_one L hlen]; rfl
    · refine ⟨hmodL.out, ?_, HI.out⟩
      unfold tenB
      rw [inB_true.2 (show (1 : Int) ≤ 1 ∧ (1 : Int) ≤ 16 by omega), inB_true.2 (show (1 : Int) ≤ I ∧ (I : Int) ≤ 16 by omega)]
      simp [hlen])
  have holen := hid (fun i (hi : i < l.length) => show (lServeRequests.outF L l i).length = O by
    have h1 := cur_out hML.out (x := rowR l i) (by rw [(HQ.len i hi).1]; exact HI.out)
    rw [← HO.out] at h1
    exact Int.ofNat.inj h1)
  have holt := hid (fun i (hi : i < l.length) => show ∀ x ∈ lServeRequests.outF L l i, x < 4294967296 from lt_cur L (HQ.len i hi).2 L.length)
  have hrow := hid (fun i (hi : i < l.length) => show ∃ ci pr cr, rss[i]? = some ci ∧ ci = [.int .i64 (atR l i), .slice pr I cr] ∧ Rep w5 (.sl .flt) [.slice pr I cr] (rowR l i) by
    obtain ⟨ci, hci, ri⟩ := HR5.out.get i l[i] (by simp)
    obtain ⟨pr, cr, rfl, k1, _⟩ := req_cells ri
    have h1 := (HQ.len i hi).1
    rw [rowR_eq hi] at h1 ⊢
    rw [h1] at k1 hci
    exact ⟨_, pr, cr, hci, by rw [atR_eq hi], k1⟩)
  have hans := hid (fun i (hi : i < l.length) => show ∃ di pa ca us, dss[i]? = some di ∧ di = [.int .i64 ((sv (atR l) l.length z wt wk i).2.2 + wk), .int .i64 ((sv (atR l) l.length z wt wk i).2.1 : Int), .slice pa O ca] ∧ Cs w5 pa us ∧ F32s us (lServeRequests.outF L l i) by
    obtain ⟨di, hdi, ri⟩ := HD5.out.get i _ (HAT.out i hi)
    obtain ⟨pa, ca, us, rfl, k1, k2⟩ := ans_cells ri
    have h1 := holen.out i hi
    dsimp only at h1 k2 hdi ⊢
    rw [h1] at hdi
    exact ⟨_, pa, ca, us, hdi, rfl, k1, k2⟩)
  have hdp : dss.length = l.length := d7
  have hrsp : 0 < l.length → rq.isSome = true := fun h => r1.some_of r6b (by decide) (show 0 < rss.length by rw [r7b]; exact h)
  have hasp : 0 < l.length → ap.isSome = true := fun h => d1.some_of d6 (by decide) (show 0 < dss.length by rw [d7]; exact h)
  have E5 := E3.trans e5
  have b6 := (b5.ext e3).ext e5
  have L3 := (l1.ext e3).ext e5
  clear hfr fi CS HQ HR5 HD5 HAT hsz1 hdel r5b d5 hrepR o5 hal hTi
  generalize hf0 : lServeRequests.outF L l = f at *
  generalize hA : atR l = A at *
  generalize hs0 : sv A l.length z wt wk = s at *
  generalize hm0 : mx A s wk = m at *
  generalize hNl : l.length = N at *
  have R7 := hid r7b
  have D7 := hid d7
  clear r7b d7 hdp
  go_wp2_with fail
  refine (CB w5 (Ext.refl _)).mono ?_
  rintro e w6 ⟨c6, b6', rfl, o6, _, _, e6⟩
  obtain ⟨sp, sc, rfl, hsc, _, _⟩ := rep_ints.1 o6.rep
  simp only [ofCs, Sh.agg, List.headD_cons, Bool.false_eq_true, if_false]
  clear o6
  go_wp2_with fail
  refine (CD w6 e6).mono ?_
  rintro e w7 ⟨rfl, e7⟩
  have e67 := e6.trans e7
  have E7 := E5.trans e67
  have hsc := hsc.ext e7
  have b7 := b6.ext e67
  have hr7 := r1.ext e67
  have hd7 := d1.ext e67
  have HSZ := hid (show (sz.map (Value.int .i64)).length = sz.length by simp)
  have hNN := bne_f (rfl : (N : Int) = (N : Int))
  clear CB CD r1 d1 b5 b6 E2 E3 E5 e1 e2 e3 e5 l1 L3 r5 r6
  go_wp2
  go_loopw [17, 18, 19, 20] (fun mv fv gv iv wr => ∃ (i : Nat) (fr fi : Int), i ≤ N ∧ mv = .int .i64 (m i) ∧ fv = .int .i64 fr ∧ gv = .int .i64 fi ∧ Hid (i = 0 → fr = 0 ∧ fi = 0) ∧ iv = .int .i64 i ∧ Ext w7 wr) (fun _ _ _ iv _ => N - (intOf iv).toNat)
  case atStart => exact ⟨0, 0, 0, by omega, by rw [← hm0]; rfl, rfl, rfl, hid (fun _ => ⟨rfl, rfl⟩), rfl, Ext.refl _⟩
  case round =>
    obtain ⟨i, fr, fi, hi, rfl, rfl, rfl, HF0, rfl, he⟩ := hrel
    by_cases hlt : i < N
    · have e5r := e67.trans he
      obtain ⟨ci, pr, cr, hci, rfl, kr⟩ := hrow.out i hlt
      obtain ⟨di, pa, ca, us, hdi, rfl, ka, kf⟩ := hans.out i hlt
      have HCI := hid hci
      have HDI := hid hdi
      have hrs := hrsp (by omega)
      have has := hasp (by omega)
      have hr1 := hr7.ext he
      have t1 := hsvt.out i hlt
      have t2 := HTi.out.lo i hlt
      have t3 := HTi.out.n8
      have hof := holen.out i hlt
      have CM1 := CM.out i hlt
      have hrm := hresM.out i hlt
      have q1 := hmxb.out i hi
      have HM1 := hid (hmxs.out i)
      have HST := hid (rfl : (s i).2.2 = (s i).2.2)
      clear hci hdi
      have bA := HB.new wr #[.int .i64 1, .int .i64 I, .slice pr I cr] 57
      have eA := Ext.alloc wr (.cells #[.int .i64 1, .int .i64 I, .slice pr I cr] 57)
      obtain ⟨wA, hwA⟩ : ∃ wA, wA = wr.alloc (.cells #[.int .i64 1, .int .i64 I, .slice pr I cr] 57) := ⟨_, rfl⟩
      rw [← hwA] at bA eA
      have v0 := bA.cell 0 rfl; have v1 := bA.cell 1 rfl; have v2 := bA.cell 2 rfl
      have bM := (b7.ext he).ext eA
      have v3 := bM.cell 0 rfl
      rw [hwA] at v0 v1 v2 v3
      go_wp2_with (first | ((with_reducible show wpList _ _ _ (Oper.mk _ (Op.indexAddr _ _ _) _ _ _ _ :: Oper.mk _ (Op.fieldAddr _ _ _) _ _ _ _ :: _) _ _); refine wl_ldField (f := 1) (off := 1) (j := i) rfl rfl rfl rfl rfl rfl (fun _ => rfl) (fun _ _ => rfl) fo_implRequest_1 rfl rfl rfl hr1 r6b R7.out hlt hrs HCI.out rfl ?_) | fail)
      rw [← hwA]
      clear hwA v0 v1 v2 v3
      have CM2 := CM1 wA (e5r.trans eA) pr cr ((kr.ext (e5r.trans eA)))
      rw [hrm] at CM2
      simp only [ofCs, Sh.agg, if_true, List.append_nil, List.headD_cons, Bool.false_eq_true, if_false] at CM2
      clear CM1 hrm
      refine CM2.mono ?_
      rintro e w9 ⟨c9, b9, rfl, o9, _, _, _, e9⟩
      obtain ⟨yq, yc, yv, rfl, y1, y2, _, _⟩ := ten_vals o9.rep
      dsimp only at y1 y2 ⊢
      rw [hof]
      simp only [ofCs, Sh.agg, if_true, List.append_nil, List.headD_cons, Bool.false_eq_true, if_false]
      clear CM2 o9
      have bB := HB.new w9 #[.int .i64 1, .int .i64 O, .slice yq O yc] 57
      have eB := Ext.alloc w9 (.cells #[.int .i64 1, .int .i64 O, .slice yq O yc] 57)
      obtain ⟨wB, hwB⟩ : ∃ wB, wB = w9.alloc (.cells #[.int .i64 1, .int .i64 O, .slice yq O yc] 57) := ⟨_, rfl⟩
      have hd9 := ((hd7.ext he).ext eA).ext e9
      have hd9b := hd9.ext eB
      rw [← hwB] at bB eB
      have E9 := ((he.trans eA).trans e9).trans eB
      obtain ⟨st, hst⟩ : ∃ st, st = (s i).2.2 := ⟨_, rfl⟩
      rw [← hst] at t1 HDI HM1
      have HST := hid hst
      have hsub : IntKind.i64.wrap (st + (wk : Int) - (wk : Int)) = st := by rw [wrap_in _ (by omega) (by omega)]; omega
      clear hst
      go_wp2_with (first | ((with_reducible show wpList _ _ _ (Oper.mk _ (Op.indexAddr _ _ _) _ _ _ _ :: Oper.mk _ (Op.fieldAddr _ _ _) _ _ _ _ :: _) _ _); refine wl_ldField (f := 0) (off := 0) (j := i) rfl rfl rfl rfl rfl rfl (fun _ => rfl) (fun _ _ => rfl) fo_implAnswer_0 rfl rfl rfl hd9b d6 D7.out hlt has HDI.out rfl ?_) | fail)
      rw [← hwB]
      clear hwB hd9b
      have eD := E9.trans (Ext.drew wB)
      have krd := hr7.ext eD
      have kdd := hd7.ext eD
      have v2 := (bB.ext (Ext.drew wB)).cell 2 rfl
      have CR8 := hid (fun W (h : Ext (wB.drew) W) => r8Same_any yq pa O yc ca yv us (f i) W hof (by omega) (((y1.ext eB).ext (Ext.drew wB)).ext h) y2 (((ka.ext e67).ext eD).ext h) kf (holt.out i hlt))
      have hsA : decide (st < A i) = false := by simp; omega
      have hsA2 : ¬ st < A i := by omega
      clear bA bM eA e9 y1 y2 bB eB hd9
      refine wp_region_xall (F := fun _ _ u => u = .bool true) (by kernel_rfl) (by kernel_rfl) (by kernel_rfl) ?_
      intro wf hwf
      repeat (first
        | (refine x_skip rfl ?_; simp only [Act.put, ev_tmp, List.setIfInBounds_toArray, List.set_cons_succ, List.set_cons_zero, List.getD_cons_succ, List.getD_cons_zero])
        | (refine x_mv rfl rfl rfl ?_; simp only [Act.put, ev_tmp, List.setIfInBounds_toArray, List.set_cons_succ, List.set_cons_zero, List.getD_cons_succ, List.getD_cons_zero])
        | (refine x_as rfl rfl rfl ?_; simp only [Act.put, ev_tmp, List.setIfInBounds_toArray, List.set_cons_succ, List.set_cons_zero, List.getD_cons_succ, List.getD_cons_zero])
        | ((with_reducible show wpX _ _ _ _ _ _ (Oper.mk _ (Op.indexAddr _ _ _) _ _ _ _ :: Oper.mk _ (Op.fieldAddr _ _ _) _ _ _ _ :: Oper.mk _ (Op.load _ _) _ _ _ _ :: _) _); refine x_ldField (f := 2) (off := 2) (j := i) rfl rfl (fun _ => rfl) rfl (fun _ _ => rfl) rfl (fun _ => rfl) (fun _ _ => rfl) fo_implAnswer_2 rfl rfl ?_ kdd d6 D7.out (by omega) has HDI.out rfl ?_; (focus (first | rfl | omega)); simp only [Act.put, ev_tmp, List.setIfInBounds_toArray, List.set_cons_succ, List.set_cons_zero, List.getD_cons_succ, List.getD_cons_zero])
        | ((with_reducible show wpX _ _ _ _ _ _ (Oper.mk _ (Op.indexAddr _ _ _) _ _ _ _ :: Oper.mk _ (Op.fieldAddr _ _ _) _ _ _ _ :: Oper.mk _ (Op.load _ _) _ _ _ _ :: _) _); refine x_ldField (f := 0) (off := 0) (j := i) rfl rfl (fun _ => rfl) rfl (fun _ _ => rfl) rfl (fun _ => rfl) (fun _ _ => rfl) fo_implRequest_0 rfl rfl ?_ krd r6b R7.out (by omega) hrs HCI.out rfl ?_; (focus (first | rfl | omega)); simp only [Act.put, ev_tmp, List.setIfInBounds_toArray, List.set_cons_succ, List.set_cons_zero, List.getD_cons_succ, List.getD_cons_zero])
        | ((with_reducible show wpX _ _ _ _ _ _ (Oper.mk _ (Op.call _) _ _ _ _ :: _) _); refine x_callf (f := 37) (args := #[.slice yq O yc, .slice pa O ca]) rfl rfl Try.func37 rfl (by kernel_rfl) ?_ ?_ ?_; (focus (simp [Act.eval]; done)); (focus (intro w1 hw1; exact ((CR8.out w1 hw1).mono fun e w3 h => ⟨_, h.1, h.2, rfl⟩))); rintro u w3 e3 e4 hu; subst hu; simp only [Act.put, ev_tmp, List.setIfInBounds_toArray, List.set_cons_succ, List.set_cons_zero, List.getD_cons_succ, List.getD_cons_zero])
        | (refine x_run rfl fun K hK w1 hw1 => ?_; have k0 := hw1.cell (v2); go_simp; refine hK _ ?_; clear hK K k0 hw1 w1))
      refine x_nil ?_
      have E10 := eD.trans hwf
      clear hwf v2 CR8 krd kdd eD E9
      have krd := hr7.ext (E10.trans (Ext.drew _))
      have kdd := hd7.ext (E10.trans (Ext.drew _))
      have hdif : IntKind.i64.wrap (st + (wk : Int) - A i) = st + (wk : Int) - A i := wrap_in _ (by omega) (by omega)
      by_cases hm : m i < st + (wk : Int) - A i
      · have hmv := hid (show m (i + 1) = st + (wk : Int) - A i by rw [HM1.out]; omega)
        have hmT : decide (m i < st + (wk : Int) - A i) = true := decide_eq_true hm
        go_wp2
        refine wp_region_xall (F := fun _ _ _ => False) (by kernel_rfl) (by kernel_rfl) (by kernel_rfl) ?_
        intro wf hwf
        repeat (first
          | (refine x_skip rfl ?_; simp only [Act.put, ev_tmp, List.setIfInBounds_toArray, List.set_cons_succ, List.set_cons_zero, List.getD_cons_succ, List.getD_cons_zero])
          | (refine x_mv rfl rfl rfl ?_; simp only [Act.put, ev_tmp, List.setIfInBounds_toArray, List.set_cons_succ, List.set_cons_zero, List.getD_cons_succ, List.getD_cons_zero])
          | (refine x_as rfl rfl rfl ?_; simp only [Act.put, ev_tmp, List.setIfInBounds_toArray, List.set_cons_succ, List.set_cons_zero, List.getD_cons_succ, List.getD_cons_zero])
          | ((with_reducible show wpX _ _ _ _ _ _ (Oper.mk _ (Op.indexAddr _ _ _) _ _ _ _ :: Oper.mk _ (Op.fieldAddr _ _ _) _ _ _ _ :: Oper.mk _ (Op.load _ _) _ _ _ _ :: _) _); refine x_ldField (f := 0) (off := 0) (j := i) rfl rfl (fun _ => rfl) rfl (fun _ _ => rfl) rfl (fun _ => rfl) (fun _ _ => rfl) fo_implAnswer_0 rfl rfl ?_ kdd d6 D7.out (by omega) has HDI.out rfl ?_; (focus (first | rfl | omega)); simp only [Act.put, ev_tmp, List.setIfInBounds_toArray, List.set_cons_succ, List.set_cons_zero, List.getD_cons_succ, List.getD_cons_zero])
          | ((with_reducible show wpX _ _ _ _ _ _ (Oper.mk _ (Op.indexAddr _ _ _) _ _ _ _ :: Oper.mk _ (Op.fieldAddr _ _ _) _ _ _ _ :: Oper.mk _ (Op.load _ _) _ _ _ _ :: _) _); refine x_ldField (f := 0) (off := 0) (j := i) rfl rfl (fun _ => rfl) rfl (fun _ _ => rfl) rfl (fun _ => rfl) (fun _ _ => rfl) fo_implRequest_0 rfl rfl ?_ krd r6b R7.out (by omega) hrs HCI.out rfl ?_; (focus (first | rfl | omega)); simp only [Act.put, ev_tmp, List.setIfInBounds_toArray, List.set_cons_succ, List.set_cons_zero, List.getD_cons_succ, List.getD_cons_zero])
          | (refine x_run rfl fun K hK w1 hw1 => ?_; go_simp; refine hK _ ?_; clear hK K  hw1 w1))
        refine x_nil ?_
        have E11 := (E10.trans (Ext.drew _)).trans hwf
        clear hwf krd kdd E10
        have krd := hr7.ext (E11.trans (Ext.drew _))
        have kdd := hd7.ext (E11.trans (Ext.drew _))
        go_wp2
        refine wp_region_xall (F := fun _ _ _ => False) (by kernel_rfl) (by kernel_rfl) (by kernel_rfl) ?_
        intro wf hwf
        repeat (first
          | (refine x_skip rfl ?_; simp only [Act.put, ev_tmp, List.setIfInBounds_toArray, List.set_cons_succ, List.set_cons_zero, List.getD_cons_succ, List.getD_cons_zero])
          | (refine x_mv rfl rfl rfl ?_; simp only [Act.put, ev_tmp, List.setIfInBounds_toArray, List.set_cons_succ, List.set_cons_zero, List.getD_cons_succ, List.getD_cons_zero])
          | (refine x_as rfl rfl rfl ?_; simp only [Act.put, ev_tmp, List.setIfInBounds_toArray, List.set_cons_succ, List.set_cons_zero, List.getD_cons_succ, List.getD_cons_zero])
          | ((with_reducible show wpX _ _ _ _ _ _ (Oper.mk _ (Op.indexAddr _ _ _) _ _ _ _ :: Oper.mk _ (Op.fieldAddr _ _ _) _ _ _ _ :: Oper.mk _ (Op.load _ _) _ _ _ _ :: _) _); refine x_ldField (f := 0) (off := 0) (j := i) rfl rfl (fun _ => rfl) rfl (fun _ _ => rfl) rfl (fun _ => rfl) (fun _ _ => rfl) fo_implAnswer_0 rfl rfl ?_ kdd d6 D7.out (by omega) has HDI.out rfl ?_; (focus (first | rfl | omega)); simp only [Act.put, ev_tmp, List.setIfInBounds_toArray, List.set_cons_succ, List.set_cons_zero, List.getD_cons_succ, List.getD_cons_zero])
          | ((with_reducible show wpX _ _ _ _ _ _ (Oper.mk _ (Op.indexAddr _ _ _) _ _ _ _ :: Oper.mk _ (Op.fieldAddr _ _ _) _ _ _ _ :: Oper.mk _ (Op.load _ _) _ _ _ _ :: _) _); refine x_ldField (f := 0) (off := 0) (j := i) rfl rfl (fun _ => rfl) rfl (fun _ _ => rfl) rfl (fun _ => rfl) (fun _ _ => rfl) fo_implRequest_0 rfl rfl ?_ krd r6b R7.out (by omega) hrs HCI.out rfl ?_; (focus (first | rfl | omega)); simp only [Act.put, ev_tmp, List.setIfInBounds_toArray, List.set_cons_succ, List.set_cons_zero, List.getD_cons_succ, List.getD_cons_zero])
          | (refine x_run rfl fun K hK w1 hw1 => ?_; go_simp; refine hK _ ?_; clear hK K  hw1 w1))
        refine x_nil ?_
        have E12 := (E11.trans (Ext.drew _)).trans hwf
        clear hwf krd kdd E11 hm hmT
        go_wp2
        have krd := hr7.ext (E12.trans (Ext.drew _))
        have kdd := hd7.ext (E12.trans (Ext.drew _))
        by_cases hi0 : i = 0
        · as_aux_lemma =>
            obtain ⟨rfl, rfl⟩ := HF0.out hi0
            have hz0 : (0 : Int) = (i : Int) := by omega
            have hnp : ¬ 0 < i := by omega
            have hnp2 : decide ((0 : Int) < (i : Int)) = false := by simp; omega
            have Hz0 := hid hz0
            have Hi0 := hid hi0
            have hstv := hid (show st = if due0 A N z wt i < 0 then 0 else due0 A N z wt i by
              rw [← hdue.out i 0, HST.out, hi0, hsv0])
            clear hz0 hi0
            refine wp_region_xall (F := fun _ _ _ => False) (by kernel_rfl) (by kernel_rfl) (by kernel_rfl) ?_
            intro wf hwf
            repeat (first
              | (refine x_skip rfl ?_; simp only [Act.put, ev_tmp, List.setIfInBounds_toArray, List.set_cons_succ, List.set_cons_zero, List.getD_cons_succ, List.getD_cons_zero])
              | (refine x_mv rfl rfl rfl ?_; simp only [Act.put, ev_tmp, List.setIfInBounds_toArray, List.set_cons_succ, List.set_cons_zero, List.getD_cons_succ, List.getD_cons_zero])
              | (refine x_as rfl rfl rfl ?_; simp only [Act.put, ev_tmp, List.setIfInBounds_toArray, List.set_cons_succ, List.set_cons_zero, List.getD_cons_succ, List.getD_cons_zero])
              | (refine x_run rfl fun K hK w1 hw1 => ?_; go_simp; refine hK _ ?_; clear hK K  hw1 w1))
            refine x_nil ?_
            have EP := (E12.trans (Ext.drew _)).trans hwf
            have hrP := hr7.ext EP
            clear krd kdd E12
            obtain ⟨fu, hfu⟩ : ∃ fu : Nat, (i : Int) + (z : Int) - 1 = (fu : Int) := ⟨i + z - 1, by omega⟩
            have hfu2 : i + z - 1 = fu := by omega
            have hfu0 : (z : Int) - 1 = (fu : Int) := by have := Hz0.out; omega
            by_cases hfN : fu < N
            · obtain ⟨cf, pf, cfc, hcf, rfl, _⟩ := hrow.out fu hfN
              have HCF := hid hcf
              clear hcf
              have hfT1 : decide ((fu : Int) < (N : Int)) = true := by simp; omega
              have hfT2 : decide (fu < N) = true := by simp; omega
              by_cases h2 : A fu < A i + (wt : Int)
              · have hD : due0 A N z wt i = A fu := by rw [← hfu2]; exact due0_t (by omega) (by rw [hfu2]; exact h2)
                by_cases h3 : A fu < 0
                · have hq := bne_f (show st = 0 by rw [hstv.out, hD]; exact if_pos h3)
                  go_wp2_with (first | ((with_reducible show wpList _ _ _ (Oper.mk _ (Op.indexAddr _ _ _) _ _ _ _ :: Oper.mk _ (Op.fieldAddr _ _ _) _ _ _ _ :: _) _ _); refine wl_ldField (f := 0) (off := 0) (j := i) rfl rfl rfl rfl rfl rfl (fun _ => rfl) (fun _ _ => rfl) fo_implRequest_0 rfl rfl ?_ hrP r6b R7.out (by omega) hrs HCI.out rfl ?_; (focus (first | rfl | exact Hz0.out | omega))) | ((with_reducible show wpList _ _ _ (Oper.mk _ (Op.indexAddr _ _ _) _ _ _ _ :: Oper.mk _ (Op.fieldAddr _ _ _) _ _ _ _ :: _) _ _); refine wl_ldFieldW (f := 0) (off := 0) (j := fu) rfl rfl (fun _ => rfl) rfl (fun _ _ => rfl) rfl (fun _ => rfl) (fun _ _ => rfl) fo_implRequest_0 rfl rfl ?_ hrP r6b R7.out (by omega) hrs HCF.out rfl ?_; (focus (first | rfl | exact Hz0.out | omega))) | ((with_reducible show wpList _ _ _ (Oper.mk _ (Op.indexAddr _ _ _) _ _ _ _ :: Oper.mk _ (Op.fieldAddr _ _ _) _ _ _ _ :: _) _ _); refine wl_ldField (f := 0) (off := 0) (j := fu) rfl rfl rfl rfl rfl rfl (fun _ => rfl) (fun _ _ => rfl) fo_implRequest_0 rfl rfl ?_ hrP r6b R7.out (by omega) hrs HCF.out rfl ?_; (focus (first | rfl | exact Hz0.out | omega))))
                  go_roundw
                  case rel => exact ⟨i + 1, _, _, by omega, by rw [hmv.out], rfl, rfl, hid (fun h => by omega), by go_num, EP⟩
                  case measure => simp [intOf]; omega
                · have hq := bne_f (show st = A fu by rw [hstv.out, hD]; exact if_neg h3)
                  go_wp2_with (first | ((with_reducible show wpList _ _ _ (Oper.mk _ (Op.indexAddr _ _ _) _ _ _ _ :: Oper.mk _ (Op.fieldAddr _ _ _) _ _ _ _ :: _) _ _); refine wl_ldField (f := 0) (off := 0) (j := i) rfl rfl rfl rfl rfl rfl (fun _ => rfl) (fun _ _ => rfl) fo_implRequest_0 rfl rfl ?_ hrP r6b R7.out (by omega) hrs HCI.out rfl ?_; (focus (first | rfl | exact Hz0.out | omega))) | ((with_reducible show wpList _ _ _ (Oper.mk _ (Op.indexAddr _ _ _) _ _ _ _ :: Oper.mk _ (Op.fieldAddr _ _ _) _ _ _ _ :: _) _ _); refine wl_ldFieldW (f := 0) (off := 0) (j := fu) rfl rfl (fun _ => rfl) rfl (fun _ _ => rfl) rfl (fun _ => rfl) (fun _ _ => rfl) fo_implRequest_0 rfl rfl ?_ hrP r6b R7.out (by omega) hrs HCF.out rfl ?_; (focus (first | rfl | exact Hz0.out | omega))) | ((with_reducible show wpList _ _ _ (Oper.mk _ (Op.indexAddr _ _ _) _ _ _ _ :: Oper.mk _ (Op.fieldAddr _ _ _) _ _ _ _ :: _) _ _); refine wl_ldField (f := 0) (off := 0) (j := fu) rfl rfl rfl rfl rfl rfl (fun _ => rfl) (fun _ _ => rfl) fo_implRequest_0 rfl rfl ?_ hrP r6b R7.out (by omega) hrs HCF.out rfl ?_; (focus (first | rfl | exact Hz0.out | omega))))
                  go_roundw
                  case rel => exact ⟨i + 1, _, _, by omega, by rw [hmv.out], rfl, rfl, hid (fun h => by omega), by go_num, EP⟩
                  case measure => simp [intOf]; omega
              · have hD : due0 A N z wt i = A i + wt := due0_f (by rw [hfu2]; exact fun h => h2 h.2)
                by_cases h3 : A i + (wt : Int) < 0
                · have hq := bne_f (show st = 0 by rw [hstv.out, hD]; exact if_pos h3)
                  go_wp2_with (first | ((with_reducible show wpList _ _ _ (Oper.mk _ (Op.indexAddr _ _ _) _ _ _ _ :: Oper.mk _ (Op.fieldAddr _ _ _) _ _ _ _ :: _) _ _); refine wl_ldField (f := 0) (off := 0) (j := i) rfl rfl rfl rfl rfl rfl (fun _ => rfl) (fun _ _ => rfl) fo_implRequest_0 rfl rfl ?_ hrP r6b R7.out (by omega) hrs HCI.out rfl ?_; (focus (first | rfl | exact Hz0.out | omega))) | ((with_reducible show wpList _ _ _ (Oper.mk _ (Op.indexAddr _ _ _) _ _ _ _ :: Oper.mk _ (Op.fieldAddr _ _ _) _ _ _ _ :: _) _ _); refine wl_ldFieldW (f := 0) (off := 0) (j := fu) rfl rfl (fun _ => rfl) rfl (fun _ _ => rfl) rfl (fun _ => rfl) (fun _ _ => rfl) fo_implRequest_0 rfl rfl ?_ hrP r6b R7.out (by omega) hrs HCF.out rfl ?_; (focus (first | rfl | exact Hz0.out | omega))) | ((with_reducible show wpList _ _ _ (Oper.mk _ (Op.indexAddr _ _ _) _ _ _ _ :: Oper.mk _ (Op.fieldAddr _ _ _) _ _ _ _ :: _) _ _); refine wl_ldField (f := 0) (off := 0) (j := fu) rfl rfl rfl rfl rfl rfl (fun _ => rfl) (fun _ _ => rfl) fo_implRequest_0 rfl rfl ?_ hrP r6b R7.out (by omega) hrs HCF.out rfl ?_; (focus (first | rfl | exact Hz0.out | omega))))
                  go_roundw
                  case rel => exact ⟨i + 1, _, _, by omega, by rw [hmv.out], rfl, rfl, hid (fun h => by omega), by go_num, EP⟩
                  case measure => simp [intOf]; omega
                · have hq := bne_f (show st = A i + (wt : Int) by rw [hstv.out, hD]; exact if_neg h3)
                  go_wp2_with (first | ((with_reducible show wpList _ _ _ (Oper.mk _ (Op.indexAddr _ _ _) _ _ _ _ :: Oper.mk _ (Op.fieldAddr _ _ _) _ _ _ _ :: _) _ _); refine wl_ldField (f := 0) (off := 0) (j := i) rfl rfl rfl rfl rfl rfl (fun _ => rfl) (fun _ _ => rfl) fo_implRequest_0 rfl rfl ?_ hrP r6b R7.out (by omega) hrs HCI.out rfl ?_; (focus (first | rfl | exact Hz0.out | omega))) | ((with_reducible show wpList _ _ _ (Oper.mk _ (Op.indexAddr _ _ _) _ _ _ _ :: Oper.mk _ (Op.fieldAddr _ _ _) _ _ _ _ :: _) _ _); refine wl_ldFieldW (f := 0) (off := 0) (j := fu) rfl rfl (fun _ => rfl) rfl (fun _ _ => rfl) rfl (fun _ => rfl) (fun _ _ => rfl) fo_implRequest_0 rfl rfl ?_ hrP r6b R7.out (by omega) hrs HCF.out rfl ?_; (focus (first | rfl | exact Hz0.out | omega))) | ((with_reducible show wpList _ _ _ (Oper.mk _ (Op.indexAddr _ _ _) _ _ _ _ :: Oper.mk _ (Op.fieldAddr _ _ _) _ _ _ _ :: _) _ _); refine wl_ldField (f := 0) (off := 0) (j := fu) rfl rfl rfl rfl rfl rfl (fun _ => rfl) (fun _ _ => rfl) fo_implRequest_0 rfl rfl ?_ hrP r6b R7.out (by omega) hrs HCF.out rfl ?_; (focus (first | rfl | exact Hz0.out | omega))))
                  go_roundw
                  case rel => exact ⟨i + 1, _, _, by omega, by rw [hmv.out], rfl, rfl, hid (fun h => by omega), by go_num, EP⟩
                  case measure => simp [intOf]; omega
            · have hD : due0 A N z wt i = A i + wt := due0_f (by rw [hfu2]; exact fun h => hfN h.1)
              by_cases h3 : A i + (wt : Int) < 0
              · have hq := bne_f (show st = 0 by rw [hstv.out, hD]; exact if_pos h3)
                go_wp2_with (first | ((with_reducible show wpList _ _ _ (Oper.mk _ (Op.indexAddr _ _ _) _ _ _ _ :: Oper.mk _ (Op.fieldAddr _ _ _) _ _ _ _ :: _) _ _); refine wl_ldField (f := 0) (off := 0) (j := i) rfl rfl rfl rfl rfl rfl (fun _ => rfl) (fun _ _ => rfl) fo_implRequest_0 rfl rfl ?_ hrP r6b R7.out (by omega) hrs HCI.out rfl ?_; (focus (first | rfl | exact Hz0.out | omega))))
                go_roundw
                case rel => exact ⟨i + 1, _, _, by omega, by rw [hmv.out], rfl, rfl, hid (fun h => by omega), by go_num, EP⟩
                case measure => simp [intOf]; omega
              · have hq := bne_f (show st = A i + (wt : Int) by rw [hstv.out, hD]; exact if_neg h3)
                go_wp2_with (first | ((with_reducible show wpList _ _ _ (Oper.mk _ (Op.indexAddr _ _ _) _ _ _ _ :: Oper.mk _ (Op.fieldAddr _ _ _) _ _ _ _ :: _) _ _); refine wl_ldField (f := 0) (off := 0) (j := i) rfl rfl rfl rfl rfl rfl (fun _ => rfl) (fun _ _ => rfl) fo_implRequest_0 rfl rfl ?_ hrP r6b R7.out (by omega) hrs HCI.out rfl ?_; (focus (first | rfl | exact Hz0.out | omega))))
                go_roundw
                case rel => exact ⟨i + 1, _, _, by omega, by rw [hmv.out], rfl, rfl, hid (fun h => by omega), by go_num, EP⟩
                case measure => simp [intOf]; omega
        · obtain ⟨j, hj⟩ : ∃ j, i = j + 1 := ⟨i - 1, by omega⟩
          have hp : 0 < i := by omega
          have hp2 : decide ((0 : Int) < (i : Int)) = true := by simp; omega
          have him : (i : Int) - 1 = (j : Int) := by omega
          have him2 : IntKind.i64.wrap ((i : Int) - 1) = (j : Int) := by rw [wrap_in _ (by omega) (by omega)]; omega
          have him3 : IntKind.i64.wrap (j : Int) = (j : Int) := wrap_in _ (by omega) (by omega)
          obtain ⟨dj, pb, cb, ub, hdj, rfl, _, _⟩ := hans.out j (by omega)
          have hse := hsve.out j
          rw [← hj] at hse
          have tj := hsvt.out j (by omega)
          have hjN : j < N := by omega
          have tj0 := HTi.out.lo j hjN
          have Hj := hid hj
          clear hj
          obtain ⟨Tj, hTj⟩ : ∃ T, T = (s j).2.2 := ⟨_, rfl⟩
          obtain ⟨bj, hbj⟩ : ∃ b : Int, b = ((s j).2.1 : Int) := ⟨_, rfl⟩
          obtain ⟨bi, hbi⟩ : ∃ b : Int, b = ((s i).2.1 : Int) := ⟨_, rfl⟩
          rw [← hTj, ← hbj] at hdj
          rw [← hbi] at HDI
          rw [← hTj] at tj
          have HDJ := hid hdj
          clear hdj
          by_cases hsty : i - (s j).1 < z ∧ A i ≤ (s j).2.2
          · as_aux_lemma =>
              rw [if_pos hsty] at hse
              have hbb : bi = bj := by rw [hbi, hbj, hse]
              have hst2 : st = Tj := by rw [HST.out, hse, hTj]
              have hb1 := beq_t hbb
              have hb2 := bne_f (show st + (wk : Int) = Tj + (wk : Int) by rw [hst2])
              clear hbb hst2 hse hsty hbi hbj hTj
              refine wp_region_xall (F := fun _ _ _ => False) (by kernel_rfl) (by kernel_rfl) (by kernel_rfl) ?_
              intro wf hwf
              repeat (first
                | (refine x_skip rfl ?_; simp only [Act.put, ev_tmp, List.setIfInBounds_toArray, List.set_cons_succ, List.set_cons_zero, List.getD_cons_succ, List.getD_cons_zero])
                | (refine x_mv rfl rfl rfl ?_; simp only [Act.put, ev_tmp, List.setIfInBounds_toArray, List.set_cons_succ, List.set_cons_zero, List.getD_cons_succ, List.getD_cons_zero])
                | (refine x_as rfl rfl rfl ?_; simp only [Act.put, ev_tmp, List.setIfInBounds_toArray, List.set_cons_succ, List.set_cons_zero, List.getD_cons_succ, List.getD_cons_zero])
                | ((with_reducible show wpX _ _ _ _ _ _ (Oper.mk _ (Op.indexAddr _ _ _) _ _ _ _ :: Oper.mk _ (Op.fieldAddr _ _ _) _ _ _ _ :: Oper.mk _ (Op.load _ _) _ _ _ _ :: _) _); refine x_ldField (f := 1) (off := 1) (j := i) rfl rfl (fun _ => rfl) rfl (fun _ _ => rfl) rfl (fun _ => rfl) (fun _ _ => rfl) fo_implAnswer_1 rfl rfl ?_ kdd d6 D7.out (by omega) has HDI.out rfl ?_; (focus (first | rfl | omega)); simp only [Act.put, ev_tmp, List.setIfInBounds_toArray, List.set_cons_succ, List.set_cons_zero, List.getD_cons_succ, List.getD_cons_zero])
                | ((with_reducible show wpX _ _ _ _ _ _ (Oper.mk _ (Op.indexAddr _ _ _) _ _ _ _ :: Oper.mk _ (Op.fieldAddr _ _ _) _ _ _ _ :: Oper.mk _ (Op.load _ _) _ _ _ _ :: _) _); refine x_ldField (f := 1) (off := 1) (j := j) rfl rfl (fun _ => rfl) rfl (fun _ _ => rfl) rfl (fun _ => rfl) (fun _ _ => rfl) fo_implAnswer_1 rfl rfl ?_ kdd d6 D7.out (by omega) has HDJ.out rfl ?_; (focus (first | rfl | omega)); simp only [Act.put, ev_tmp, List.setIfInBounds_toArray, List.set_cons_succ, List.set_cons_zero, List.getD_cons_succ, List.getD_cons_zero])
                | (refine x_run rfl fun K hK w1 hw1 => ?_; go_simp; refine hK _ ?_; clear hK K  hw1 w1))
              refine x_nil ?_
              have E13 := (E12.trans (Ext.drew _)).trans hwf
              have kd3 := hd7.ext (E13.trans (Ext.drew _))
              go_wp2
              refine wp_region_xall (F := fun _ _ _ => False) (by kernel_rfl) (by kernel_rfl) (by kernel_rfl) ?_
              intro wf hwf
              repeat (first
                | (refine x_skip rfl ?_; simp only [Act.put, ev_tmp, List.setIfInBounds_toArray, List.set_cons_succ, List.set_cons_zero, List.getD_cons_succ, List.getD_cons_zero])
                | (refine x_mv rfl rfl rfl ?_; simp only [Act.put, ev_tmp, List.setIfInBounds_toArray, List.set_cons_succ, List.set_cons_zero, List.getD_cons_succ, List.getD_cons_zero])
                | (refine x_as rfl rfl rfl ?_; simp only [Act.put, ev_tmp, List.setIfInBounds_toArray, List.set_cons_succ, List.set_cons_zero, List.getD_cons_succ, List.getD_cons_zero])
                | ((with_reducible show wpX _ _ _ _ _ _ (Oper.mk _ (Op.indexAddr _ _ _) _ _ _ _ :: Oper.mk _ (Op.fieldAddr _ _ _) _ _ _ _ :: Oper.mk _ (Op.load _ _) _ _ _ _ :: _) _); refine x_ldField (f := 0) (off := 0) (j := i) rfl rfl (fun _ => rfl) rfl (fun _ _ => rfl) rfl (fun _ => rfl) (fun _ _ => rfl) fo_implAnswer_0 rfl rfl ?_ kd3 d6 D7.out (by omega) has HDI.out rfl ?_; (focus (first | rfl | omega)); simp only [Act.put, ev_tmp, List.setIfInBounds_toArray, List.set_cons_succ, List.set_cons_zero, List.getD_cons_succ, List.getD_cons_zero])
                | ((with_reducible show wpX _ _ _ _ _ _ (Oper.mk _ (Op.indexAddr _ _ _) _ _ _ _ :: Oper.mk _ (Op.fieldAddr _ _ _) _ _ _ _ :: Oper.mk _ (Op.load _ _) _ _ _ _ :: _) _); refine x_ldField (f := 0) (off := 0) (j := j) rfl rfl (fun _ => rfl) rfl (fun _ _ => rfl) rfl (fun _ => rfl) (fun _ _ => rfl) fo_implAnswer_0 rfl rfl ?_ kd3 d6 D7.out (by omega) has HDJ.out rfl ?_; (focus (first | rfl | omega)); simp only [Act.put, ev_tmp, List.setIfInBounds_toArray, List.set_cons_succ, List.set_cons_zero, List.getD_cons_succ, List.getD_cons_zero])
                | (refine x_run rfl fun K hK w1 hw1 => ?_; go_simp; refine hK _ ?_; clear hK K  hw1 w1))
              refine x_nil ?_
              have EP := (E13.trans (Ext.drew _)).trans hwf
              go_wp2
              go_roundw
              case rel => exact ⟨i + 1, _, _, by omega, by rw [hmv.out], rfl, rfl, hid (fun h => by omega), by go_num, EP⟩
              case measure => simp [intOf]; omega
          · as_aux_lemma =>
              rw [if_neg hsty] at hse
              have hbb : ¬ bi = bj := by rw [hbi, hbj, hse]; dsimp only; omega
              have hb1 := beq_f hbb
              have hstv := hid (show st = if due0 A N z wt i < Tj + (wk : Int) then Tj + (wk : Int) else due0 A N z wt i by
                rw [← hdue.out i (Tj + (wk : Int)), HST.out, hse, hTj])
              clear hbb hse hsty hbi hbj hTj
              refine wp_region_xall (F := fun _ _ _ => False) (by kernel_rfl) (by kernel_rfl) (by kernel_rfl) ?_
              intro wf hwf
              repeat (first
                | (refine x_skip rfl ?_; simp only [Act.put, ev_tmp, List.setIfInBounds_toArray, List.set_cons_succ, List.set_cons_zero, List.getD_cons_succ, List.getD_cons_zero])
                | (refine x_mv rfl rfl rfl ?_; simp only [Act.put, ev_tmp, List.setIfInBounds_toArray, List.set_cons_succ, List.set_cons_zero, List.getD_cons_succ, List.getD_cons_zero])
                | (refine x_as rfl rfl rfl ?_; simp only [Act.put, ev_tmp, List.setIfInBounds_toArray, List.set_cons_succ, List.set_cons_zero, List.getD_cons_succ, List.getD_cons_zero])
                | ((with_reducible show wpX _ _ _ _ _ _ (Oper.mk _ (Op.indexAddr _ _ _) _ _ _ _ :: Oper.mk _ (Op.fieldAddr _ _ _) _ _ _ _ :: Oper.mk _ (Op.load _ _) _ _ _ _ :: _) _); refine x_ldField (f := 1) (off := 1) (j := i) rfl rfl (fun _ => rfl) rfl (fun _ _ => rfl) rfl (fun _ => rfl) (fun _ _ => rfl) fo_implAnswer_1 rfl rfl ?_ kdd d6 D7.out (by omega) has HDI.out rfl ?_; (focus (first | rfl | omega)); simp only [Act.put, ev_tmp, List.setIfInBounds_toArray, List.set_cons_succ, List.set_cons_zero, List.getD_cons_succ, List.getD_cons_zero])
                | ((with_reducible show wpX _ _ _ _ _ _ (Oper.mk _ (Op.indexAddr _ _ _) _ _ _ _ :: Oper.mk _ (Op.fieldAddr _ _ _) _ _ _ _ :: Oper.mk _ (Op.load _ _) _ _ _ _ :: _) _); refine x_ldField (f := 1) (off := 1) (j := j) rfl rfl (fun _ => rfl) rfl (fun _ _ => rfl) rfl (fun _ => rfl) (fun _ _ => rfl) fo_implAnswer_1 rfl rfl ?_ kdd d6 D7.out (by omega) has HDJ.out rfl ?_; (focus (first | rfl | omega)); simp only [Act.put, ev_tmp, List.setIfInBounds_toArray, List.set_cons_succ, List.set_cons_zero, List.getD_cons_succ, List.getD_cons_zero])
                | (refine x_run rfl fun K hK w1 hw1 => ?_; go_simp; refine hK _ ?_; clear hK K  hw1 w1))
              refine x_nil ?_
              have EP := (E12.trans (Ext.drew _)).trans hwf
              have hrP := hr7.ext EP
              have hdP := hd7.ext EP
              clear krd kdd E12
              obtain ⟨fu, hfu⟩ : ∃ fu : Nat, (i : Int) + (z : Int) - 1 = (fu : Int) := ⟨i + z - 1, by omega⟩
              have hfu2 : i + z - 1 = fu := by omega
              by_cases hfN : fu < N
              · obtain ⟨cf, pf, cfc, hcf, rfl, _⟩ := hrow.out fu hfN
                have HCF := hid hcf
                clear hcf
                have hfT1 : decide ((fu : Int) < (N : Int)) = true := by simp; omega
                have hfT2 : decide (fu < N) = true := by simp; omega
                by_cases h2 : A fu < A i + (wt : Int)
                · have hD : due0 A N z wt i = A fu := by rw [← hfu2]; exact due0_t (by omega) (by rw [hfu2]; exact h2)
                  by_cases h3 : A fu < Tj + (wk : Int)
                  · have hq := bne_f (show st = Tj + (wk : Int) by rw [hstv.out, hD]; exact if_pos h3)
                    go_wp2_with (first | ((with_reducible show wpList _ _ _ (Oper.mk _ (Op.indexAddr _ _ _) _ _ _ _ :: Oper.mk _ (Op.fieldAddr _ _ _) _ _ _ _ :: _) _ _); refine wl_ldField (f := 0) (off := 0) (j := i) rfl rfl rfl rfl rfl rfl (fun _ => rfl) (fun _ _ => rfl) fo_implRequest_0 rfl rfl ?_ hrP r6b R7.out (by omega) hrs HCI.out rfl ?_; (focus (first | rfl | exact Hz0.out | omega))) | ((with_reducible show wpList _ _ _ (Oper.mk _ (Op.indexAddr _ _ _) _ _ _ _ :: Oper.mk _ (Op.fieldAddr _ _ _) _ _ _ _ :: _) _ _); refine wl_ldField (f := 0) (off := 0) (j := j) rfl rfl rfl rfl rfl rfl (fun _ => rfl) (fun _ _ => rfl) fo_implAnswer_0 rfl rfl ?_ hdP d6 D7.out (by omega) has HDJ.out rfl ?_; (focus (first | rfl | omega))) | ((with_reducible show wpList _ _ _ (Oper.mk _ (Op.indexAddr _ _ _) _ _ _ _ :: Oper.mk _ (Op.fieldAddr _ _ _) _ _ _ _ :: _) _ _); refine wl_ldFieldW (f := 0) (off := 0) (j := fu) rfl rfl (fun _ => rfl) rfl (fun _ _ => rfl) rfl (fun _ => rfl) (fun _ _ => rfl) fo_implRequest_0 rfl rfl ?_ hrP r6b R7.out (by omega) hrs HCF.out rfl ?_; (focus (first | rfl | exact Hz0.out | omega))) | ((with_reducible show wpList _ _ _ (Oper.mk _ (Op.indexAddr _ _ _) _ _ _ _ :: Oper.mk _ (Op.fieldAddr _ _ _) _ _ _ _ :: _) _ _); refine wl_ldField (f := 0) (off := 0) (j := fu) rfl rfl rfl rfl rfl rfl (fun _ => rfl) (fun _ _ => rfl) fo_implRequest_0 rfl rfl ?_ hrP r6b R7.out (by omega) hrs HCF.out rfl ?_; (focus (first | rfl | exact Hz0.out | omega))))
                    go_roundw
                    case rel => exact ⟨i + 1, _, _, by omega, by rw [hmv.out], rfl, rfl, hid (fun h => by omega), by go_num, EP⟩
                    case measure => simp [intOf]; omega
                  · have hq := bne_f (show st = A fu by rw [hstv.out, hD]; exact if_neg h3)
                    go_wp2_with (first | ((with_reducible show wpList _ _ _ (Oper.mk _ (Op.indexAddr _ _ _) _ _ _ _ :: Oper.mk _ (Op.fieldAddr _ _ _) _ _ _ _ :: _) _ _); refine wl_ldField (f := 0) (off := 0) (j := i) rfl rfl rfl rfl rfl rfl (fun _ => rfl) (fun _ _ => rfl) fo_implRequest_0 rfl rfl ?_ hrP r6b R7.out (by omega) hrs HCI.out rfl ?_; (focus (first | rfl | exact Hz0.out | omega))) | ((with_reducible show wpList _ _ _ (Oper.mk _ (Op.indexAddr _ _ _) _ _ _ _ :: Oper.mk _ (Op.fieldAddr _ _ _) _ _ _ _ :: _) _ _); refine wl_ldField (f := 0) (off := 0) (j := j) rfl rfl rfl rfl rfl rfl (fun _ => rfl) (fun _ _ => rfl) fo_implAnswer_0 rfl rfl ?_ hdP d6 D7.out (by omega) has HDJ.out rfl ?_; (focus (first | rfl | omega))) | ((with_reducible show wpList _ _ _ (Oper.mk _ (Op.indexAddr _ _ _) _ _ _ _ :: Oper.mk _ (Op.fieldAddr _ _ _) _ _ _ _ :: _) _ _); refine wl_ldFieldW (f := 0) (off := 0) (j := fu) rfl rfl (fun _ => rfl) rfl (fun _ _ => rfl) rfl (fun _ => rfl) (fun _ _ => rfl) fo_implRequest_0 rfl rfl ?_ hrP r6b R7.out (by omega) hrs HCF.out rfl ?_; (focus (first | rfl | exact Hz0.out | omega))) | ((with_reducible show wpList _ _ _ (Oper.mk _ (Op.indexAddr _ _ _) _ _ _ _ :: Oper.mk _ (Op.fieldAddr _ _ _) _ _ _ _ :: _) _ _); refine wl_ldField (f := 0) (off := 0) (j := fu) rfl rfl rfl rfl rfl rfl (fun _ => rfl) (fun _ _ => rfl) fo_implRequest_0 rfl rfl ?_ hrP r6b R7.out (by omega) hrs HCF.out rfl ?_; (focus (first | rfl | exact Hz0.out | omega))))
                    go_roundw
                    case rel => exact ⟨i + 1, _, _, by omega, by rw [hmv.out], rfl, rfl, hid (fun h => by omega), by go_num, EP⟩
                    case measure => simp [intOf]; omega
                · have hD : due0 A N z wt i = A i + wt := due0_f (by rw [hfu2]; exact fun h => h2 h.2)
                  by_cases h3 : A i + (wt : Int) < Tj + (wk : Int)
                  · have hq := bne_f (show st = Tj + (wk : Int) by rw [hstv.out, hD]; exact if_pos h3)
                    go_wp2_with (first | ((with_reducible show wpList _ _ _ (Oper.mk _ (Op.indexAddr _ _ _) _ _ _ _ :: Oper.mk _ (Op.fieldAddr _ _ _) _ _ _ _ :: _) _ _); refine wl_ldField (f := 0) (off := 0) (j := i) rfl rfl rfl rfl rfl rfl (fun _ => rfl) (fun _ _ => rfl) fo_implRequest_0 rfl rfl ?_ hrP r6b R7.out (by omega) hrs HCI.out rfl ?_; (focus (first | rfl | exact Hz0.out | omega))) | ((with_reducible show wpList _ _ _ (Oper.mk _ (Op.indexAddr _ _ _) _ _ _ _ :: Oper.mk _ (Op.fieldAddr _ _ _) _ _ _ _ :: _) _ _); refine wl_ldField (f := 0) (off := 0) (j := j) rfl rfl rfl rfl rfl rfl (fun _ => rfl) (fun _ _ => rfl) fo_implAnswer_0 rfl rfl ?_ hdP d6 D7.out (by omega) has HDJ.out rfl ?_; (focus (first | rfl | omega))) | ((with_reducible show wpList _ _ _ (Oper.mk _ (Op.indexAddr _ _ _) _ _ _ _ :: Oper.mk _ (Op.fieldAddr _ _ _) _ _ _ _ :: _) _ _); refine wl_ldFieldW (f := 0) (off := 0) (j := fu) rfl rfl (fun _ => rfl) rfl (fun _ _ => rfl) rfl (fun _ => rfl) (fun _ _ => rfl) fo_implRequest_0 rfl rfl ?_ hrP r6b R7.out (by omega) hrs HCF.out rfl ?_; (focus (first | rfl | exact Hz0.out | omega))) | ((with_reducible show wpList _ _ _ (Oper.mk _ (Op.indexAddr _ _ _) _ _ _ _ :: Oper.mk _ (Op.fieldAddr _ _ _) _ _ _ _ :: _) _ _); refine wl_ldField (f := 0) (off := 0) (j := fu) rfl rfl rfl rfl rfl rfl (fun _ => rfl) (fun _ _ => rfl) fo_implRequest_0 rfl rfl ?_ hrP r6b R7.out (by omega) hrs HCF.out rfl ?_; (focus (first | rfl | exact Hz0.out | omega))))
                    go_roundw
                    case rel => exact ⟨i + 1, _, _, by omega, by rw [hmv.out], rfl, rfl, hid (fun h => by omega), by go_num, EP⟩
                    case measure => simp [intOf]; omega
                  · have hq := bne_f (show st = A i + (wt : Int) by rw [hstv.out, hD]; exact if_neg h3)
                    go_wp2_with (first | ((with_reducible show wpList _ _ _ (Oper.mk _ (Op.indexAddr _ _ _) _ _ _ _ :: Oper.mk _ (Op.fieldAddr _ _ _) _ _ _ _ :: _) _ _); refine wl_ldField (f := 0) (off := 0) (j := i) rfl rfl rfl rfl rfl rfl (fun _ => rfl) (fun _ _ => rfl) fo_implRequest_0 rfl rfl ?_ hrP r6b R7.out (by omega) hrs HCI.out rfl ?_; (focus (first | rfl | exact Hz0.out | omega))) | ((with_reducible show wpList _ _ _ (Oper.mk _ (Op.indexAddr _ _ _) _ _ _ _ :: Oper.mk _ (Op.fieldAddr _ _ _) _ _ _ _ :: _) _ _); refine wl_ldField (f := 0) (off := 0) (j := j) rfl rfl rfl rfl rfl rfl (fun _ => rfl) (fun _ _ => rfl) fo_implAnswer_0 rfl rfl ?_ hdP d6 D7.out (by omega) has HDJ.out rfl ?_; (focus (first | rfl | omega))) | ((with_reducible show wpList _ _ _ (Oper.mk _ (Op.indexAddr _ _ _) _ _ _ _ :: Oper.mk _ (Op.fieldAddr _ _ _) _ _ _ _ :: _) _ _); refine wl_ldFieldW (f := 0) (off := 0) (j := fu) rfl rfl (fun _ => rfl) rfl (fun _ _ => rfl) rfl (fun _ => rfl) (fun _ _ => rfl) fo_implRequest_0 rfl rfl ?_ hrP r6b R7.out (by omega) hrs HCF.out rfl ?_; (focus (first | rfl | exact Hz0.out | omega))) | ((with_reducible show wpList _ _ _ (Oper.mk _ (Op.indexAddr _ _ _) _ _ _ _ :: Oper.mk _ (Op.fieldAddr _ _ _) _ _ _ _ :: _) _ _); refine wl_ldField (f := 0) (off := 0) (j := fu) rfl rfl rfl rfl rfl rfl (fun _ => rfl) (fun _ _ => rfl) fo_implRequest_0 rfl rfl ?_ hrP r6b R7.out (by omega) hrs HCF.out rfl ?_; (focus (first | rfl | exact Hz0.out | omega))))
                    go_roundw
                    case rel => exact ⟨i + 1, _, _, by omega, by rw [hmv.out], rfl, rfl, hid (fun h => by omega), by go_num, EP⟩
                    case measure => simp [intOf]; omega
              · have hD : due0 A N z wt i = A i + wt := due0_f (by rw [hfu2]; exact fun h => hfN h.1)
                by_cases h3 : A i + (wt : Int) < Tj + (wk : Int)
                · have hq := bne_f (show st = Tj + (wk : Int) by rw [hstv.out, hD]; exact if_pos h3)
                  go_wp2_with (first | ((with_reducible show wpList _ _ _ (Oper.mk _ (Op.indexAddr _ _ _) _ _ _ _ :: Oper.mk _ (Op.fieldAddr _ _ _) _ _ _ _ :: _) _ _); refine wl_ldField (f := 0) (off := 0) (j := i) rfl rfl rfl rfl rfl rfl (fun _ => rfl) (fun _ _ => rfl) fo_implRequest_0 rfl rfl ?_ hrP r6b R7.out (by omega) hrs HCI.out rfl ?_; (focus (first | rfl | exact Hz0.out | omega))) | ((with_reducible show wpList _ _ _ (Oper.mk _ (Op.indexAddr _ _ _) _ _ _ _ :: Oper.mk _ (Op.fieldAddr _ _ _) _ _ _ _ :: _) _ _); refine wl_ldField (f := 0) (off := 0) (j := j) rfl rfl rfl rfl rfl rfl (fun _ => rfl) (fun _ _ => rfl) fo_implAnswer_0 rfl rfl ?_ hdP d6 D7.out (by omega) has HDJ.out rfl ?_; (focus (first | rfl | omega))))
                  go_roundw
                  case rel => exact ⟨i + 1, _, _, by omega, by rw [hmv.out], rfl, rfl, hid (fun h => by omega), by go_num, EP⟩
                  case measure => simp [intOf]; omega
                · have hq := bne_f (show st = A i + (wt : Int) by rw [hstv.out, hD]; exact if_neg h3)
                  go_wp2_with (first | ((with_reducible show wpList _ _ _ (Oper.mk _ (Op.indexAddr _ _ _) _ _ _ _ :: Oper.mk _ (Op.fieldAddr _ _ _) _ _ _ _ :: _) _ _); refine wl_ldField (f := 0) (off := 0) (j := i) rfl rfl rfl rfl rfl rfl (fun _ => rfl) (fun _ _ => rfl) fo_implRequest_0 rfl rfl ?_ hrP r6b R7.out (by omega) hrs HCI.out rfl ?_; (focus (first | rfl | exact Hz0.out | omega))) | ((with_reducible show wpList _ _ _ (Oper.mk _ (Op.indexAddr _ _ _) _ _ _ _ :: Oper.mk _ (Op.fieldAddr _ _ _) _ _ _ _ :: _) _ _); refine wl_ldField (f := 0) (off := 0) (j := j) rfl rfl rfl rfl rfl rfl (fun _ => rfl) (fun _ _ => rfl) fo_implAnswer_0 rfl rfl ?_ hdP d6 D7.out (by omega) has HDJ.out rfl ?_; (focus (first | rfl | omega))))
                  go_roundw
                  case rel => exact ⟨i + 1, _, _, by omega, by rw [hmv.out], rfl, rfl, hid (fun h => by omega), by go_num, EP⟩
                  case measure => simp [intOf]; omega
      · have hmv := hid (show m (i + 1) = m i by rw [HM1.out]; omega)
        have hmT : decide (m i < st + (wk : Int) - A i) = false := decide_eq_false hm
        go_wp2
        refine wp_region_xall (F := fun _ _ _ => False) (by kernel_rfl) (by kernel_rfl) (by kernel_rfl) ?_
        intro wf hwf
        repeat (first
          | (refine x_skip rfl ?_; simp only [Act.put, ev_tmp, List.setIfInBounds_toArray, List.set_cons_succ, List.set_cons_zero, List.getD_cons_succ, List.getD_cons_zero])
          | (refine x_mv rfl rfl rfl ?_; simp only [Act.put, ev_tmp, List.setIfInBounds_toArray, List.set_cons_succ, List.set_cons_zero, List.getD_cons_succ, List.getD_cons_zero])
          | (refine x_as rfl rfl rfl ?_; simp only [Act.put, ev_tmp, List.setIfInBounds_toArray, List.set_cons_succ, List.set_cons_zero, List.getD_cons_succ, List.getD_cons_zero])
          | ((with_reducible show wpX _ _ _ _ _ _ (Oper.mk _ (Op.indexAddr _ _ _) _ _ _ _ :: Oper.mk _ (Op.fieldAddr _ _ _) _ _ _ _ :: Oper.mk _ (Op.load _ _) _ _ _ _ :: _) _); refine x_ldField (f := 0) (off := 0) (j := i) rfl rfl (fun _ => rfl) rfl (fun _ _ => rfl) rfl (fun _ => rfl) (fun _ _ => rfl) fo_implAnswer_0 rfl rfl ?_ kdd d6 D7.out (by omega) has HDI.out rfl ?_; (focus (first | rfl | omega)); simp only [Act.put, ev_tmp, List.setIfInBounds_toArray, List.set_cons_succ, List.set_cons_zero, List.getD_cons_succ, List.getD_cons_zero])
          | ((with_reducible show wpX _ _ _ _ _ _ (Oper.mk _ (Op.indexAddr _ _ _) _ _ _ _ :: Oper.mk _ (Op.fieldAddr _ _ _) _ _ _ _ :: Oper.mk _ (Op.load _ _) _ _ _ _ :: _) _); refine x_ldField (f := 0) (off := 0) (j := i) rfl rfl (fun _ => rfl) rfl (fun _ _ => rfl) rfl (fun _ => rfl) (fun _ _ => rfl) fo_implRequest_0 rfl rfl ?_ krd r6b R7.out (by omega) hrs HCI.out rfl ?_; (focus (first | rfl | omega)); simp only [Act.put, ev_tmp, List.setIfInBounds_toArray, List.set_cons_succ, List.set_cons_zero, List.getD_cons_succ, List.getD_cons_zero])
          | (refine x_run rfl fun K hK w1 hw1 => ?_; go_simp; refine hK _ ?_; clear hK K  hw1 w1))
        refine x_nil ?_
        have E12 := (E10.trans (Ext.drew _)).trans hwf
        clear hwf krd kdd E10
        go_wp2
        have krd := hr7.ext (E12.trans (Ext.drew _))
        have kdd := hd7.ext (E12.trans (Ext.drew _))
        by_cases hi0 : i = 0
        · as_aux_lemma =>
            obtain ⟨rfl, rfl⟩ := HF0.out hi0
            have hz0 : (0 : Int) = (i : Int) := by omega
            have hnp : ¬ 0 < i := by omega
            have hnp2 : decide ((0 : Int) < (i : Int)) = false := by simp; omega
            have Hz0 := hid hz0
            have Hi0 := hid hi0
            have hstv := hid (show st = if due0 A N z wt i < 0 then 0 else due0 A N z wt i by
              rw [← hdue.out i 0, HST.out, hi0, hsv0])
            clear hz0 hi0
            refine wp_region_xall (F := fun _ _ _ => False) (by kernel_rfl) (by kernel_rfl) (by kernel_rfl) ?_
            intro wf hwf
            repeat (first
              | (refine x_skip rfl ?_; simp only [Act.put, ev_tmp, List.setIfInBounds_toArray, List.set_cons_succ, List.set_cons_zero, List.getD_cons_succ, List.getD_cons_zero])
              | (refine x_mv rfl rfl rfl ?_; simp only [Act.put, ev_tmp, List.setIfInBounds_toArray, List.set_cons_succ, List.set_cons_zero, List.getD_cons_succ, List.getD_cons_zero])
              | (refine x_as rfl rfl rfl ?_; simp only [Act.put, ev_tmp, List.setIfInBounds_toArray, List.set_cons_succ, List.set_cons_zero, List.getD_cons_succ, List.getD_cons_zero])
              | (refine x_run rfl fun K hK w1 hw1 => ?_; go_simp; refine hK _ ?_; clear hK K  hw1 w1))
            refine x_nil ?_
            have EP := (E12.trans (Ext.drew _)).trans hwf
            have hrP := hr7.ext EP
            clear krd kdd E12
            obtain ⟨fu, hfu⟩ : ∃ fu : Nat, (i : Int) + (z : Int) - 1 = (fu : Int) := ⟨i + z - 1, by omega⟩
            have hfu2 : i + z - 1 = fu := by omega
            have hfu0 : (z : Int) - 1 = (fu : Int) := by have := Hz0.out; omega
            by_cases hfN : fu < N
            · obtain ⟨cf, pf, cfc, hcf, rfl, _⟩ := hrow.out fu hfN
              have HCF := hid hcf
              clear hcf
              have hfT1 : decide ((fu : Int) < (N : Int)) = true := by simp; omega
              have hfT2 : decide (fu < N) = true := by simp; omega
              by_cases h2 : A fu < A i + (wt : Int)
              · have hD : due0 A N z wt i = A fu := by rw [← hfu2]; exact due0_t (by omega) (by rw [hfu2]; exact h2)
                by_cases h3 : A fu < 0
                · have hq := bne_f (show st = 0 by rw [hstv.out, hD]; exact if_pos h3)
                  go_wp2_with (first | ((with_reducible show wpList _ _ _ (Oper.mk _ (Op.indexAddr _ _ _) _ _ _ _ :: Oper.mk _ (Op.fieldAddr _ _ _) _ _ _ _ :: _) _ _); refine wl_ldField (f := 0) (off := 0) (j := i) rfl rfl rfl rfl rfl rfl (fun _ => rfl) (fun _ _ => rfl) fo_implRequest_0 rfl rfl ?_ hrP r6b R7.out (by omega) hrs HCI.out rfl ?_; (focus (first | rfl | exact Hz0.out | omega))) | ((with_reducible show wpList _ _ _ (Oper.mk _ (Op.indexAddr _ _ _) _ _ _ _ :: Oper.mk _ (Op.fieldAddr _ _ _) _ _ _ _ :: _) _ _); refine wl_ldFieldW (f := 0) (off := 0) (j := fu) rfl rfl (fun _ => rfl) rfl (fun _ _ => rfl) rfl (fun _ => rfl) (fun _ _ => rfl) fo_implRequest_0 rfl rfl ?_ hrP r6b R7.out (by omega) hrs HCF.out rfl ?_; (focus (first | rfl | exact Hz0.out | omega))) | ((with_reducible show wpList _ _ _ (Oper.mk _ (Op.indexAddr _ _ _) _ _ _ _ :: Oper.mk _ (Op.fieldAddr _ _ _) _ _ _ _ :: _) _ _); refine wl_ldField (f := 0) (off := 0) (j := fu) rfl rfl rfl rfl rfl rfl (fun _ => rfl) (fun _ _ => rfl) fo_implRequest_0 rfl rfl ?_ hrP r6b R7.out (by omega) hrs HCF.out rfl ?_; (focus (first | rfl | exact Hz0.out | omega))))
                  go_roundw
                  case rel => exact ⟨i + 1, _, _, by omega, by rw [hmv.out], rfl, rfl, hid (fun h => by omega), by go_num, EP⟩
                  case measure => simp [intOf]; omega
                · have hq := bne_f (show st = A fu by rw [hstv.out, hD]; exact if_neg h3)
                  go_wp2_with (first | ((with_reducible show wpList _ _ _ (Oper.mk _ (Op.indexAddr _ _ _) _ _ _ _ :: Oper.mk _ (Op.fieldAddr _ _ _) _ _ _ _ :: _) _ _); refine wl_ldField (f := 0) (off := 0) (j := i) rfl rfl rfl rfl rfl rfl (fun _ => rfl) (fun _ _ => rfl) fo_implRequest_0 rfl rfl ?_ hrP r6b R7.out (by omega) hrs HCI.out rfl ?_; (focus (first | rfl | exact Hz0.out | omega))) | ((with_reducible show wpList _ _ _ (Oper.mk _ (Op.indexAddr _ _ _) _ _ _ _ :: Oper.mk _ (Op.fieldAddr _ _ _) _ _ _ _ :: _) _ _); refine wl_ldFieldW (f := 0) (off := 0) (j := fu) rfl rfl (fun _ => rfl) rfl (fun _ _ => rfl) rfl (fun _ => rfl) (fun _ _ => rfl) fo_implRequest_0 rfl rfl ?_ hrP r6b R7.out (by omega) hrs HCF.out rfl ?_; (focus (first | rfl | exact Hz0.out | omega))) | ((with_reducible show wpList _ _ _ (Oper.mk _ (Op.indexAddr _ _ _) _ _ _ _ :: Oper.mk _ (Op.fieldAddr _ _ _) _ _ _ _ :: _) _ _); refine wl_ldField (f := 0) (off := 0) (j := fu) rfl rfl rfl rfl rfl rfl (fun _ => rfl) (fun _ _ => rfl) fo_implRequest_0 rfl rfl ?_ hrP r6b R7.out (by omega) hrs HCF.out rfl ?_; (focus (first | rfl | exact Hz0.out | omega))))
                  go_roundw
                  case rel => exact ⟨i + 1, _, _, by omega, by rw [hmv.out], rfl, rfl, hid (fun h => by omega), by go_num, EP⟩
                  case measure => simp [intOf]; omega
              · have hD : due0 A N z wt i = A i + wt := due0_f (by rw [hfu2]; exact fun h => h2 h.2)
                by_cases h3 : A i + (wt : Int) < 0
                · have hq := bne_f (show st = 0 by rw [hstv.out, hD]; exact if_pos h3)
                  go_wp2_with (first | ((with_reducible show wpList _ _ _ (Oper.mk _ (Op.indexAddr _ _ _) _ _ _ _ :: Oper.mk _ (Op.fieldAddr _ _ _) _ _ _ _ :: _) _ _); refine wl_ldField (f := 0) (off := 0) (j := i) rfl rfl rfl rfl rfl rfl (fun _ => rfl) (fun _ _ => rfl) fo_implRequest_0 rfl rfl ?_ hrP r6b R7.out (by omega) hrs HCI.out rfl ?_; (focus (first | rfl | exact Hz0.out | omega))) | ((with_reducible show wpList _ _ _ (Oper.mk _ (Op.indexAddr _ _ _) _ _ _ _ :: Oper.mk _ (Op.fieldAddr _ _ _) _ _ _ _ :: _) _ _); refine wl_ldFieldW (f := 0) (off := 0) (j := fu) rfl rfl (fun _ => rfl) rfl (fun _ _ => rfl) rfl (fun _ => rfl) (fun _ _ => rfl) fo_implRequest_0 rfl rfl ?_ hrP r6b R7.out (by omega) hrs HCF.out rfl ?_; (focus (first | rfl | exact Hz0.out | omega))) | ((with_reducible show wpList _ _ _ (Oper.mk _ (Op.indexAddr _ _ _) _ _ _ _ :: Oper.mk _ (Op.fieldAddr _ _ _) _ _ _ _ :: _) _ _); refine wl_ldField (f := 0) (off := 0) (j := fu) rfl rfl rfl rfl rfl rfl (fun _ => rfl) (fun _ _ => rfl) fo_implRequest_0 rfl rfl ?_ hrP r6b R7.out (by omega) hrs HCF.out rfl ?_; (focus (first | rfl | exact Hz0.out | omega))))
                  go_roundw
                  case rel => exact ⟨i + 1, _, _, by omega, by rw [hmv.out], rfl, rfl, hid (fun h => by omega), by go_num, EP⟩
                  case measure => simp [intOf]; omega
                · have hq := bne_f (show st = A i + (wt : Int) by rw [hstv.out, hD]; exact if_neg h3)
                  go_wp2_with (first | ((with_reducible show wpList _ _ _ (Oper.mk _ (Op.indexAddr _ _ _) _ _ _ _ :: Oper.mk _ (Op.fieldAddr _ _ _) _ _ _ _ :: _) _ _); refine wl_ldField (f := 0) (off := 0) (j := i) rfl rfl rfl rfl rfl rfl (fun _ => rfl) (fun _ _ => rfl) fo_implRequest_0 rfl rfl ?_ hrP r6b R7.out (by omega) hrs HCI.out rfl ?_; (focus (first | rfl | exact Hz0.out | omega))) | ((with_reducible show wpList _ _ _ (Oper.mk _ (Op.indexAddr _ _ _) _ _ _ _ :: Oper.mk _ (Op.fieldAddr _ _ _) _ _ _ _ :: _) _ _); refine wl_ldFieldW (f := 0) (off := 0) (j := fu) rfl rfl (fun _ => rfl) rfl (fun _ _ => rfl) rfl (fun _ => rfl) (fun _ _ => rfl) fo_implRequest_0 rfl rfl ?_ hrP r6b R7.out (by omega) hrs HCF.out rfl ?_; (focus (first | rfl | exact Hz0.out | omega))) | ((with_reducible show wpList _ _ _ (Oper.mk _ (Op.indexAddr _ _ _) _ _ _ _ :: Oper.mk _ (Op.fieldAddr _ _ _) _ _ _ _ :: _) _ _); refine wl_ldField (f := 0) (off := 0) (j := fu) rfl rfl rfl rfl rfl rfl (fun _ => rfl) (fun _ _ => rfl) fo_implRequest_0 rfl rfl ?_ hrP r6b R7.out (by omega) hrs HCF.out rfl ?_; (focus (first | rfl | exact Hz0.out | omega))))
                  go_roundw
                  case rel => exact ⟨i + 1, _, _, by omega, by rw [hmv.out], rfl, rfl, hid (fun h => by omega), by go_num, EP⟩
                  case measure => simp [intOf]; omega
            · have hD : due0 A N z wt i = A i + wt := due0_f (by rw [hfu2]; exact fun h => hfN h.1)
              by_cases h3 : A i + (wt : Int) < 0
              · have hq := bne_f (show st = 0 by rw [hstv.out, hD]; exact if_pos h3)
                go_wp2_with (first | ((with_reducible show wpList _ _ _ (Oper.mk _ (Op.indexAddr _ _ _) _ _ _ _ :: Oper.mk _ (Op.fieldAddr _ _ _) _ _ _ _ :: _) _ _); refine wl_ldField (f := 0) (off := 0) (j := i) rfl rfl rfl rfl rfl rfl (fun _ => rfl) (fun _ _ => rfl) fo_implRequest_0 rfl rfl ?_ hrP r6b R7.out (by omega) hrs HCI.out rfl ?_; (focus (first | rfl | exact Hz0.out | omega))))
                go_roundw
                case rel => exact ⟨i + 1, _, _, by omega, by rw [hmv.out], rfl, rfl, hid (fun h => by omega), by go_num, EP⟩
                case measure => simp [intOf]; omega
              · have hq := bne_f (show st = A i + (wt : Int) by rw [hstv.out, hD]; exact if_neg h3)
                go_wp2_with (first | ((with_reducible show wpList _ _ _ (Oper.mk _ (Op.indexAddr _ _ _) _ _ _ _ :: Oper.mk _ (Op.fieldAddr _ _ _) _ _ _ _ :: _) _ _); refine wl_ldField (f := 0) (off := 0) (j := i) rfl rfl rfl rfl rfl rfl (fun _ => rfl) (fun _ _ => rfl) fo_implRequest_0 rfl rfl ?_ hrP r6b R7.out (by omega) hrs HCI.out rfl ?_; (focus (first | rfl | exact Hz0.out | omega))))
                go_roundw
                case rel => exact ⟨i + 1, _, _, by omega, by rw [hmv.out], rfl, rfl, hid (fun h => by omega), by go_num, EP⟩
                case measure => simp [intOf]; omega
        · obtain ⟨j, hj⟩ : ∃ j, i = j + 1 := ⟨i - 1, by omega⟩
          have hp : 0 < i := by omega
          have hp2 : decide ((0 : Int) < (i : Int)) = true := by simp; omega
          have him : (i : Int) - 1 = (j : Int) := by omega
          have him2 : IntKind.i64.wrap ((i : Int) - 1) = (j : Int) := by rw [wrap_in _ (by omega) (by omega)]; omega
          have him3 : IntKind.i64.wrap (j : Int) = (j : Int) := wrap_in _ (by omega) (by omega)
          obtain ⟨dj, pb, cb, ub, hdj, rfl, _, _⟩ := hans.out j (by omega)
          have hse := hsve.out j
          rw [← hj] at hse
          have tj := hsvt.out j (by omega)
          have hjN : j < N := by omega
          have tj0 := HTi.out.lo j hjN
          have Hj := hid hj
          clear hj
          obtain ⟨Tj, hTj⟩ : ∃ T, T = (s j).2.2 := ⟨_, rfl⟩
          obtain ⟨bj, hbj⟩ : ∃ b : Int, b = ((s j).2.1 : Int) := ⟨_, rfl⟩
          obtain ⟨bi, hbi⟩ : ∃ b : Int, b = ((s i).2.1 : Int) := ⟨_, rfl⟩
          rw [← hTj, ← hbj] at hdj
          rw [← hbi] at HDI
          rw [← hTj] at tj
          have HDJ := hid hdj
          clear hdj
          by_cases hsty : i - (s j).1 < z ∧ A i ≤ (s j).2.2
          · as_aux_lemma =>
              rw [if_pos hsty] at hse
              have hbb : bi = bj := by rw [hbi, hbj, hse]
              have hst2 : st = Tj := by rw [HST.out, hse, hTj]
              have hb1 := beq_t hbb
              have hb2 := bne_f (show st + (wk : Int) = Tj + (wk : Int) by rw [hst2])
              clear hbb hst2 hse hsty hbi hbj hTj
              refine wp_region_xall (F := fun _ _ _ => False) (by kernel_rfl) (by kernel_rfl) (by kernel_rfl) ?_
              intro wf hwf
              repeat (first
                | (refine x_skip rfl ?_; simp only [Act.put, ev_tmp, List.setIfInBounds_toArray, List.set_cons_succ, List.set_cons_zero, List.getD_cons_succ, List.getD_cons_zero])
                | (refine x_mv rfl rfl rfl ?_; simp only [Act.put, ev_tmp, List.setIfInBounds_toArray, List.set_cons_succ, List.set_cons_zero, List.getD_cons_succ, List.getD_cons_zero])
                | (refine x_as rfl rfl rfl ?_; simp only [Act.put, ev_tmp, List.setIfInBounds_toArray, List.set_cons_succ, List.set_cons_zero, List.getD_cons_succ, List.getD_cons_zero])
                | ((with_reducible show wpX _ _ _ _ _ _ (Oper.mk _ (Op.indexAddr _ _ _) _ _ _ _ :: Oper.mk _ (Op.fieldAddr _ _ _) _ _ _ _ :: Oper.mk _ (Op.load _ _) _ _ _ _ :: _) _); refine x_ldField (f := 1) (off := 1) (j := i) rfl rfl (fun _ => rfl) rfl (fun _ _ => rfl) rfl (fun _ => rfl) (fun _ _ => rfl) fo_implAnswer_1 rfl rfl ?_ kdd d6 D7.out (by omega) has HDI.out rfl ?_; (focus (first | rfl | omega)); simp only [Act.put, ev_tmp, List.setIfInBounds_toArray, List.set_cons_succ, List.set_cons_zero, List.getD_cons_succ, List.getD_cons_zero])
                | ((with_reducible show wpX _ _ _ _ _ _ (Oper.mk _ (Op.indexAddr _ _ _) _ _ _ _ :: Oper.mk _ (Op.fieldAddr _ _ _) _ _ _ _ :: Oper.mk _ (Op.load _ _) _ _ _ _ :: _) _); refine x_ldField (f := 1) (off := 1) (j := j) rfl rfl (fun _ => rfl) rfl (fun _ _ => rfl) rfl (fun _ => rfl) (fun _ _ => rfl) fo_implAnswer_1 rfl rfl ?_ kdd d6 D7.out (by omega) has HDJ.out rfl ?_; (focus (first | rfl | omega)); simp only [Act.put, ev_tmp, List.setIfInBounds_toArray, List.set_cons_succ, List.set_cons_zero, List.getD_cons_succ, List.getD_cons_zero])
                | (refine x_run rfl fun K hK w1 hw1 => ?_; go_simp; refine hK _ ?_; clear hK K  hw1 w1))
              refine x_nil ?_
              have E13 := (E12.trans (Ext.drew _)).trans hwf
              have kd3 := hd7.ext (E13.trans (Ext.drew _))
              go_wp2
              refine wp_region_xall (F := fun _ _ _ => False) (by kernel_rfl) (by kernel_rfl) (by kernel_rfl) ?_
              intro wf hwf
              repeat (first
                | (refine x_skip rfl ?_; simp only [Act.put, ev_tmp, List.setIfInBounds_toArray, List.set_cons_succ, List.set_cons_zero, List.getD_cons_succ, List.getD_cons_zero])
                | (refine x_mv rfl rfl rfl ?_; simp only [Act.put, ev_tmp, List.setIfInBounds_toArray, List.set_cons_succ, List.set_cons_zero, List.getD_cons_succ, List.getD_cons_zero])
                | (refine x_as rfl rfl rfl ?_; simp only [Act.put, ev_tmp, List.setIfInBounds_toArray, List.set_cons_succ, List.set_cons_zero, List.getD_cons_succ, List.getD_cons_zero])
                | ((with_reducible show wpX _ _ _ _ _ _ (Oper.mk _ (Op.indexAddr _ _ _) _ _ _ _ :: Oper.mk _ (Op.fieldAddr _ _ _) _ _ _ _ :: Oper.mk _ (Op.load _ _) _ _ _ _ :: _) _); refine x_ldField (f := 0) (off := 0) (j := i) rfl rfl (fun _ => rfl) rfl (fun _ _ => rfl) rfl (fun _ => rfl) (fun _ _ => rfl) fo_implAnswer_0 rfl rfl ?_ kd3 d6 D7.out (by omega) has HDI.out rfl ?_; (focus (first | rfl | omega)); simp only [Act.put, ev_tmp, List.setIfInBounds_toArray, List.set_cons_succ, List.set_cons_zero, List.getD_cons_succ, List.getD_cons_zero])
                | ((with_reducible show wpX _ _ _ _ _ _ (Oper.mk _ (Op.indexAddr _ _ _) _ _ _ _ :: Oper.mk _ (Op.fieldAddr _ _ _) _ _ _ _ :: Oper.mk _ (Op.load _ _) _ _ _ _ :: _) _); refine x_ldField (f := 0) (off := 0) (j := j) rfl rfl (fun _ => rfl) rfl (fun _ _ => rfl) rfl (fun _ => rfl) (fun _ _ => rfl) fo_implAnswer_0 rfl rfl ?_ kd3 d6 D7.out (by omega) has HDJ.out rfl ?_; (focus (first | rfl | omega)); simp only [Act.put, ev_tmp, List.setIfInBounds_toArray, List.set_cons_succ, List.set_cons_zero, List.getD_cons_succ, List.getD_cons_zero])
                | (refine x_run rfl fun K hK w1 hw1 => ?_; go_simp; refine hK _ ?_; clear hK K  hw1 w1))
              refine x_nil ?_
              have EP := (E13.trans (Ext.drew _)).trans hwf
              go_wp2
              go_roundw
              case rel => exact ⟨i + 1, _, _, by omega, by rw [hmv.out], rfl, rfl, hid (fun h => by omega), by go_num, EP⟩
              case measure => simp [intOf]; omega
          · as_aux_lemma =>
              rw [if_neg hsty] at hse
              have hbb : ¬ bi = bj := by rw [hbi, hbj, hse]; dsimp only; omega
              have hb1 := beq_f hbb
              have hstv := hid (show st = if due0 A N z wt i < Tj + (wk : Int) then Tj + (wk : Int) else due0 A N z wt i by
                rw [← hdue.out i (Tj + (wk : Int)), HST.out, hse, hTj])
              clear hbb hse hsty hbi hbj hTj
              refine wp_region_xall (F := fun _ _ _ => False) (by kernel_rfl) (by kernel_rfl) (by kernel_rfl) ?_
              intro wf hwf
              repeat (first
                | (refine x_skip rfl ?_; simp only [Act.put, ev_tmp, List.setIfInBounds_toArray, List.set_cons_succ, List.set_cons_zero, List.getD_cons_succ, List.getD_cons_zero])
                | (refine x_mv rfl rfl rfl ?_; simp only [Act.put, ev_tmp, List.setIfInBounds_toArray, List.set_cons_succ, List.set_cons_zero, List.getD_cons_succ, List.getD_cons_zero])
                | (refine x_as rfl rfl rfl ?_; simp only [Act.put, ev_tmp, List.setIfInBounds_toArray, List.set_cons_succ, List.set_cons_zero, List.getD_cons_succ, List.getD_cons_zero])
                | ((with_reducible show wpX _ _ _ _ _ _ (Oper.mk _ (Op.indexAddr _ _ _) _ _ _ _ :: Oper.mk _ (Op.fieldAddr _ _ _) _ _ _ _ :: Oper.mk _ (Op.load _ _) _ _ _ _ :: _) _); refine x_ldField (f := 1) (off := 1) (j := i) rfl rfl (fun _ => rfl) rfl (fun _ _ => rfl) rfl (fun _ => rfl) (fun _ _ => rfl) fo_implAnswer_1 rfl rfl ?_ kdd d6 D7.out (by omega) has HDI.out rfl ?_; (focus (first | rfl | omega)); simp only [Act.put, ev_tmp, List.setIfInBounds_toArray, List.set_cons_succ, List.set_cons_zero, List.getD_cons_succ, List.getD_cons_zero])
                | ((with_reducible show wpX _ _ _ _ _ _ (Oper.mk _ (Op.indexAddr _ _ _) _ _ _ _ :: Oper.mk _ (Op.fieldAddr _ _ _) _ _ _ _ :: Oper.mk _ (Op.load _ _) _ _ _ _ :: _) _); refine x_ldField (f := 1) (off := 1) (j := j) rfl rfl (fun _ => rfl) rfl (fun _ _ => rfl) rfl (fun _ => rfl) (fun _ _ => rfl) fo_implAnswer_1 rfl rfl ?_ kdd d6 D7.out (by omega) has HDJ.out rfl ?_; (focus (first | rfl | omega)); simp only [Act.put, ev_tmp, List.setIfInBounds_toArray, List.set_cons_succ, List.set_cons_zero, List.getD_cons_succ, List.getD_cons_zero])
                | (refine x_run rfl fun K hK w1 hw1 => ?_; go_simp; refine hK _ ?_; clear hK K  hw1 w1))
              refine x_nil ?_
              have EP := (E12.trans (Ext.drew _)).trans hwf
              have hrP := hr7.ext EP
              have hdP := hd7.ext EP
              clear krd kdd E12
              obtain ⟨fu, hfu⟩ : ∃ fu : Nat, (i : Int) + (z : Int) - 1 = (fu : Int) := ⟨i + z - 1, by omega⟩
              have hfu2 : i + z - 1 = fu := by omega
              by_cases hfN : fu < N
              · obtain ⟨cf, pf, cfc, hcf, rfl, _⟩ := hrow.out fu hfN
                have HCF := hid hcf
                clear hcf
                have hfT1 : decide ((fu : Int) < (N : Int)) = true := by simp; omega
                have hfT2 : decide (fu < N) = true := by simp; omega
                by_cases h2 : A fu < A i + (wt : Int)
                · have hD : due0 A N z wt i = A fu := by rw [← hfu2]; exact due0_t (by omega) (by rw [hfu2]; exact h2)
                  by_cases h3 : A fu < Tj + (wk : Int)
                  · have hq := bne_f (show st = Tj + (wk : Int) by rw [hstv.out, hD]; exact if_pos h3)
                    go_wp2_with (first | ((with_reducible show wpList _ _ _ (Oper.mk _ (Op.indexAddr _ _ _) _ _ _ _ :: Oper.mk _ (Op.fieldAddr _ _ _) _ _ _ _ :: _) _ _); refine wl_ldField (f := 0) (off := 0) (j := i) rfl rfl rfl rfl rfl rfl (fun _ => rfl) (fun _ _ => rfl) fo_implRequest_0 rfl rfl ?_ hrP r6b R7.out (by omega) hrs HCI.out rfl ?_; (focus (first | rfl | exact Hz0.out | omega))) | ((with_reducible show wpList _ _ _ (Oper.mk _ (Op.indexAddr _ _ _) _ _ _ _ :: Oper.mk _ (Op.fieldAddr _ _ _) _ _ _ _ :: _) _ _); refine wl_ldField (f := 0) (off := 0) (j := j) rfl rfl rfl rfl rfl rfl (fun _ => rfl) (fun _ _ => rfl) fo_implAnswer_0 rfl rfl ?_ hdP d6 D7.out (by omega) has HDJ.out rfl ?_; (focus (first | rfl | omega))) | ((with_reducible show wpList _ _ _ (Oper.mk _ (Op.indexAddr _ _ _) _ _ _ _ :: Oper.mk _ (Op.fieldAddr _ _ _) _ _ _ _ :: _) _ _); refine wl_ldFieldW (f := 0) (off := 0) (j := fu) rfl rfl (fun _ => rfl) rfl (fun _ _ => rfl) rfl (fun _ => rfl) (fun _ _ => rfl) fo_implRequest_0 rfl rfl ?_ hrP r6b R7.out (by omega) hrs HCF.out rfl ?_; (focus (first | rfl | exact Hz0.out | omega))) | ((with_reducible show wpList _ _ _ (Oper.mk _ (Op.indexAddr _ _ _) _ _ _ _ :: Oper.mk _ (Op.fieldAddr _ _ _) _ _ _ _ :: _) _ _); refine wl_ldField (f := 0) (off := 0) (j := fu) rfl rfl rfl rfl rfl rfl (fun _ => rfl) (fun _ _ => rfl) fo_implRequest_0 rfl rfl ?_ hrP r6b R7.out (by omega) hrs HCF.out rfl ?_; (focus (first | rfl | exact Hz0.out | omega))))
                    go_roundw
                    case rel => exact ⟨i + 1, _, _, by omega, by rw [hmv.out], rfl, rfl, hid (fun h => by omega), by go_num, EP⟩
                    case measure => simp [intOf]; omega
                  · have hq := bne_f (show st = A fu by rw [hstv.out, hD]; exact if_neg h3)
                    go_wp2_with (first | ((with_reducible show wpList _ _ _ (Oper.mk _ (Op.indexAddr _ _ _) _ _ _ _ :: Oper.mk _ (Op.fieldAddr _ _ _) _ _ _ _ :: _) _ _); refine wl_ldField (f := 0) (off := 0) (j := i) rfl rfl rfl rfl rfl rfl (fun _ => rfl) (fun _ _ => rfl) fo_implRequest_0 rfl rfl ?_ hrP r6b R7.out (by omega) hrs HCI.out rfl ?_; (focus (first | rfl | exact Hz0.out | omega))) | ((with_reducible show wpList _ _ _ (Oper.mk _ (Op.indexAddr _ _ _) _ _ _ _ :: Oper.mk _ (Op.fieldAddr _ _ _) _ _ _ _ :: _) _ _); refine wl_ldField (f := 0) (off := 0) (j := j) rfl rfl rfl rfl rfl rfl (fun _ => rfl) (fun _ _ => rfl) fo_implAnswer_0 rfl rfl ?_ hdP d6 D7.out (by omega) has HDJ.out rfl ?_; (focus (first | rfl | omega))) | ((with_reducible show wpList _ _ _ (Oper.mk _ (Op.indexAddr _ _ _) _ _ _ _ :: Oper.mk _ (Op.fieldAddr _ _ _) _ _ _ _ :: _) _ _); refine wl_ldFieldW (f := 0) (off := 0) (j := fu) rfl rfl (fun _ => rfl) rfl (fun _ _ => rfl) rfl (fun _ => rfl) (fun _ _ => rfl) fo_implRequest_0 rfl rfl ?_ hrP r6b R7.out (by omega) hrs HCF.out rfl ?_; (focus (first | rfl | exact Hz0.out | omega))) | ((with_reducible show wpList _ _ _ (Oper.mk _ (Op.indexAddr _ _ _) _ _ _ _ :: Oper.mk _ (Op.fieldAddr _ _ _) _ _ _ _ :: _) _ _); refine wl_ldField (f := 0) (off := 0) (j := fu) rfl rfl rfl rfl rfl rfl (fun _ => rfl) (fun _ _ => rfl) fo_implRequest_0 rfl rfl ?_ hrP r6b R7.out (by omega) hrs HCF.out rfl ?_; (focus (first | rfl | exact Hz0.out | omega))))
                    go_roundw
                    case rel => exact ⟨i + 1, _, _, by omega, by rw [hmv.out], rfl, rfl, hid (fun h => by omega), by go_num, EP⟩
                    case measure => simp [intOf]; omega
                · have hD : due0 A N z wt i = A i + wt := due0_f (by rw [hfu2]; exact fun h => h2 h.2)
                  by_cases h3 : A i + (wt : Int) < Tj + (wk : Int)
                  · have hq := bne_f (show st = Tj + (wk : Int) by rw [hstv.out, hD]; exact if_pos h3)
                    go_wp2_with (first | ((with_reducible show wpList _ _ _ (Oper.mk _ (Op.indexAddr _ _ _) _ _ _ _ :: Oper.mk _ (Op.fieldAddr _ _ _) _ _ _ _ :: _) _ _); refine wl_ldField (f := 0) (off := 0) (j := i) rfl rfl rfl rfl rfl rfl (fun _ => rfl) (fun _ _ => rfl) fo_implRequest_0 rfl rfl ?_ hrP r6b R7.out (by omega) hrs HCI.out rfl ?_; (focus (first | rfl | exact Hz0.out | omega))) | ((with_reducible show wpList _ _ _ (Oper.mk _ (Op.indexAddr _ _ _) _ _ _ _ :: Oper.mk _ (Op.fieldAddr _ _ _) _ _ _ _ :: _) _ _); refine wl_ldField (f := 0) (off := 0) (j := j) rfl rfl rfl rfl rfl rfl (fun _ => rfl) (fun _ _ => rfl) fo_implAnswer_0 rfl rfl ?_ hdP d6 D7.out (by omega) has HDJ.out rfl ?_; (focus (first | rfl | omega))) | ((with_reducible show wpList _ _ _ (Oper.mk _ (Op.indexAddr _ _ _) _ _ _ _ :: Oper.mk _ (Op.fieldAddr _ _ _) _ _ _ _ :: _) _ _); refine wl_ldFieldW (f := 0) (off := 0) (j := fu) rfl rfl (fun _ => rfl) rfl (fun _ _ => rfl) rfl (fun _ => rfl) (fun _ _ => rfl) fo_implRequest_0 rfl rfl ?_ hrP r6b R7.out (by omega) hrs HCF.out rfl ?_; (focus (first | rfl | exact Hz0.out | omega))) | ((with_reducible show wpList _ _ _ (Oper.mk _ (Op.indexAddr _ _ _) _ _ _ _ :: Oper.mk _ (Op.fieldAddr _ _ _) _ _ _ _ :: _) _ _); refine wl_ldField (f := 0) (off := 0) (j := fu) rfl rfl rfl rfl rfl rfl (fun _ => rfl) (fun _ _ => rfl) fo_implRequest_0 rfl rfl ?_ hrP r6b R7.out (by omega) hrs HCF.out rfl ?_; (focus (first | rfl | exact Hz0.out | omega))))
                    go_roundw
                    case rel => exact ⟨i + 1, _, _, by omega, by rw [hmv.out], rfl, rfl, hid (fun h => by omega), by go_num, EP⟩
                    case measure => simp [intOf]; omega
                  · have hq := bne_f (show st = A i + (wt : Int) by rw [hstv.out, hD]; exact if_neg h3)
                    go_wp2_with (first | ((with_reducible show wpList _ _ _ (Oper.mk _ (Op.indexAddr _ _ _) _ _ _ _ :: Oper.mk _ (Op.fieldAddr _ _ _) _ _ _ _ :: _) _ _); refine wl_ldField (f := 0) (off := 0) (j := i) rfl rfl rfl rfl rfl rfl (fun _ => rfl) (fun _ _ => rfl) fo_implRequest_0 rfl rfl ?_ hrP r6b R7.out (by omega) hrs HCI.out rfl ?_; (focus (first | rfl | exact Hz0.out | omega))) | ((with_reducible show wpList _ _ _ (Oper.mk _ (Op.indexAddr _ _ _) _ _ _ _ :: Oper.mk _ (Op.fieldAddr _ _ _) _ _ _ _ :: _) _ _); refine wl_ldField (f := 0) (off := 0) (j := j) rfl rfl rfl rfl rfl rfl (fun _ => rfl) (fun _ _ => rfl) fo_implAnswer_0 rfl rfl ?_ hdP d6 D7.out (by omega) has HDJ.out rfl ?_; (focus (first | rfl | omega))) | ((with_reducible show wpList _ _ _ (Oper.mk _ (Op.indexAddr _ _ _) _ _ _ _ :: Oper.mk _ (Op.fieldAddr _ _ _) _ _ _ _ :: _) _ _); refine wl_ldFieldW (f := 0) (off := 0) (j := fu) rfl rfl (fun _ => rfl) rfl (fun _ _ => rfl) rfl (fun _ => rfl) (fun _ _ => rfl) fo_implRequest_0 rfl rfl ?_ hrP r6b R7.out (by omega) hrs HCF.out rfl ?_; (focus (first | rfl | exact Hz0.out | omega))) | ((with_reducible show wpList _ _ _ (Oper.mk _ (Op.indexAddr _ _ _) _ _ _ _ :: Oper.mk _ (Op.fieldAddr _ _ _) _ _ _ _ :: _) _ _); refine wl_ldField (f := 0) (off := 0) (j := fu) rfl rfl rfl rfl rfl rfl (fun _ => rfl) (fun _ _ => rfl) fo_implRequest_0 rfl rfl ?_ hrP r6b R7.out (by omega) hrs HCF.out rfl ?_; (focus (first | rfl | exact Hz0.out | omega))))
                    go_roundw
                    case rel => exact ⟨i + 1, _, _, by omega, by rw [hmv.out], rfl, rfl, hid (fun h => by omega), by go_num, EP⟩
                    case measure => simp [intOf]; omega
              · have hD : due0 A N z wt i = A i + wt := due0_f (by rw [hfu2]; exact fun h => hfN h.1)
                by_cases h3 : A i + (wt : Int) < Tj + (wk : Int)
                · have hq := bne_f (show st = Tj + (wk : Int) by rw [hstv.out, hD]; exact if_pos h3)
                  go_wp2_with (first | ((with_reducible show wpList _ _ _ (Oper.mk _ (Op.indexAddr _ _ _) _ _ _ _ :: Oper.mk _ (Op.fieldAddr _ _ _) _ _ _ _ :: _) _ _); refine wl_ldField (f := 0) (off := 0) (j := i) rfl rfl rfl rfl rfl rfl (fun _ => rfl) (fun _ _ => rfl) fo_implRequest_0 rfl rfl ?_ hrP r6b R7.out (by omega) hrs HCI.out rfl ?_; (focus (first | rfl | exact Hz0.out | omega))) | ((with_reducible show wpList _ _ _ (Oper.mk _ (Op.indexAddr _ _ _) _ _ _ _ :: Oper.mk _ (Op.fieldAddr _ _ _) _ _ _ _ :: _) _ _); refine wl_ldField (f := 0) (off := 0) (j := j) rfl rfl rfl rfl rfl rfl (fun _ => rfl) (fun _ _ => rfl) fo_implAnswer_0 rfl rfl ?_ hdP d6 D7.out (by omega) has HDJ.out rfl ?_; (focus (first | rfl | omega))))
                  go_roundw
                  case rel => exact ⟨i + 1, _, _, by omega, by rw [hmv.out], rfl, rfl, hid (fun h => by omega), by go_num, EP⟩
                  case measure => simp [intOf]; omega
                · have hq := bne_f (show st = A i + (wt : Int) by rw [hstv.out, hD]; exact if_neg h3)
                  go_wp2_with (first | ((with_reducible show wpList _ _ _ (Oper.mk _ (Op.indexAddr _ _ _) _ _ _ _ :: Oper.mk _ (Op.fieldAddr _ _ _) _ _ _ _ :: _) _ _); refine wl_ldField (f := 0) (off := 0) (j := i) rfl rfl rfl rfl rfl rfl (fun _ => rfl) (fun _ _ => rfl) fo_implRequest_0 rfl rfl ?_ hrP r6b R7.out (by omega) hrs HCI.out rfl ?_; (focus (first | rfl | exact Hz0.out | omega))) | ((with_reducible show wpList _ _ _ (Oper.mk _ (Op.indexAddr _ _ _) _ _ _ _ :: Oper.mk _ (Op.fieldAddr _ _ _) _ _ _ _ :: _) _ _); refine wl_ldField (f := 0) (off := 0) (j := j) rfl rfl rfl rfl rfl rfl (fun _ => rfl) (fun _ _ => rfl) fo_implAnswer_0 rfl rfl ?_ hdP d6 D7.out (by omega) has HDJ.out rfl ?_; (focus (first | rfl | omega))))
                  go_roundw
                  case rel => exact ⟨i + 1, _, _, by omega, by rw [hmv.out], rfl, rfl, hid (fun h => by omega), by go_num, EP⟩
                  case measure => simp [intOf]; omega
    · obtain rfl : N = i := by omega
      generalize hnz : sz.length = nz at *
      have HNZ := hid hnz
      clear hnz
      have E := E7.trans he
      go_wp2
      go_loopw [27] (fun kv wr2 => ∃ k : Nat, k ≤ nz ∧ kv = .int .i64 k ∧ Ext w7 wr2) (fun kv _ => nz - (intOf kv).toNat)
      case atStart => exact ⟨0, by omega, rfl, he⟩
      case round =>
        clear he
        obtain ⟨k, hk, rfl, he⟩ := hrel
        by_cases hltk : k < nz
        · have hlk : k < sz.length := by rw [HNZ.out]; exact hltk
          have hs3 := hsz3 sz[k] (by simp)
          have hv := hid (show (sz.map (Value.int .i64))[k]? = some (.int .i64 sz[k]) by simp [hlk])
          generalize sz[k] = x at *
          have hc1 := hsc.ext he
          have h1 : ¬ x < 1 := by omega
          have h2 : ¬ (z : Int) < x := by omega
          go_wp2_with (first | ((with_reducible show wpList _ _ _ (Oper.mk _ (Op.indexAddr _ _ _) _ _ _ _ :: Oper.mk _ (Op.load _ _) _ _ _ _ :: _) _ _); refine wl_idxload rfl rfl rfl rfl (fun _ => rfl) rfl rfl hc1 HSZ.out (by omega) (by omega) ?_; intro u hu; rw [Int.toNat_natCast, hv.out] at hu; cases hu) | ((with_reducible show wpList _ _ _ (Oper.mk _ (Op.indexAddr _ _ _) _ _ _ _ :: Oper.mk _ (Op.load _ _) _ _ _ _ :: _) _ _); refine wl_idxloadW rfl rfl (fun _ => rfl) rfl (fun _ => rfl) rfl rfl hc1 HSZ.out (by omega) (by omega) hv.out ?_))
          go_roundw
          case rel => exact ⟨k + 1, by omega, by go_num, he⟩
          case measure => simp [intOf]; omega
        · have hmm := beq_t (rfl : m N = m N)
          go_wp2
          go_ret
          exact ⟨rfl, E7.trans he⟩
end Go.Proofs.Ytlimabbeaimdgaa.lServed
