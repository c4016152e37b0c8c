/- A part of the proofs: TnI7, RgT, Tp2, Tp3, Tp4. -/
import Derived.Laws.CopyRow
import Derived.Test.YtlimabbeaimdgaaGreatZ11Worker
import Derived.Test.YtlimabbeaimdgaaGreatZ04Worker
import Derived.Test.YtlimabbeaimdgaaGreatZ05Worker
import Derived.Test.YtlimabbeaimdgaaGreatZ09Worker
import Derived.Test.YtlimabbeaimdgaaGreatZ06Worker
set_option linter.unusedSimpArgs false
set_option linter.unusedVariables false
set_option maxRecDepth 100000
set_option maxHeartbeats 16000000
namespace Go.Proofs.YtlimabbeaimdgaaGreat
open Go.RowKit
section
variable {P : Program} {w : World} {o : Oper} {a : Act}
theorem run_copyHB {t e s b : Nat} {z : Value} [T : SlTy P t e s z b] (hs1 : s = 1) {x1 x2 : Operand} {g k dl dc sl sc : Nat} {q : Addr} {cs : List Value} {Z : Array Value} (ho : o.op = .call { callee := .builtin .copy, args := #[x1, x2], argTypes := #[t, t] })
 (hx1 : a.eval x1 = .slice (some ⟨g, k, none⟩) dl dc) (hx2 : a.eval x2 = .slice (some q) sl sc) (hb : HB w g Z e) (hn : cs.length = Nat.min sl dl) (hc : Cs w (some q) cs) (hfit : k + cs.length ≤ Z.size) (h1 : ∀ v ∈ cs, v.oneCell' = true) :
 ∃ w', (execOp a.eval o).run P w = .ok (.value (.int .i64 cs.length)) w' ∧ HB w' g (Z.toList.take k ++ cs ++ Z.toList.drop (k + cs.length)).toArray e ∧ Chg (fun b => b = g) w w' := by
 obtain ⟨ti, hi, hzz⟩ := Option.map_eq_some_iff.1 T.inf; simp only [Prod.mk.injEq] at hzz; have hb' : w.heap[g]? = some (.cells Z e (0, 0)) := hb; have h := run_copy_row (P := P) w t t o.type e g k dl dc q sl sc Z e cs T.und (by rw [hi]; simp [hzz.2.1, hs1]) hb' hn (fun j v hj => hc.cell j v hj) hfit h1; refine ⟨_, by simp [execOp, ho, resolve, invoke, builtin, hx1, hx2, h, Result.andThen, goInt], setRow_heap w g Z _ e (0, 0) hb', ⟨rfl, rfl, rfl, by simp, fun j hj hn' => setRow_other w g j _ hn'⟩⟩
end
section
variable {P : Program} {w : World} {ops : Array Oper} {rest : List Oper} {o : Oper} {a : Act} {Q : Exit → Act → World → Prop}
theorem wl_copyHB {t e s b : Nat} {z : Value} [T : SlTy P t e s z b] (hs1 : s = 1) {x1 x2 : Operand} {g k dl dc sl sc m : Nat} {q : Addr} {cs : List Value} {Z : Array Value} (hgd : o.guard = none) (ho : o.op = .call { callee := .builtin .copy, args := #[x1, x2], argTypes := #[t, t] })
 (hx1 : a.eval x1 = .slice (some ⟨g, k, none⟩) dl dc) (hx2 : a.eval x2 = .slice (some q) sl sc) (hb : HB w g Z e) (hc : Cs w (some q) cs) (hm : cs.length = m) (hn : m = Nat.min sl dl) (hfit : k + m ≤ Z.size) (h1 : ∀ v ∈ cs, v.oneCell' = true)
 (h : ∀ w', HB w' g (Z.toList.take k ++ cs ++ Z.toList.drop (k + m)).toArray e → Chg (fun b => b = g) w w' → wpList P ops Q rest (a.put o.dst (.int .i64 m)) w') : wpList P ops Q (o :: rest) a w := by
 subst hm; obtain ⟨w', hr, h2, h3⟩ := run_copyHB (P := P) hs1 ho hx1 hx2 hb hn hc hfit h1; exact wl_value hgd hr (h w' h2 h3)
theorem wpOp_copyHB {K : Act → World → Prop} {i : Nat} {t e s b : Nat} {z : Value} [T : SlTy P t e s z b] (hs1 : s = 1) {x1 x2 : Operand} {g k dl dc sl sc m : Nat} {q : Addr} {cs : List Value} {Z : Array Value} (hoi : ops[i]? = some o) (hgd : o.guard = none) (ho : o.op = .call { callee := .builtin .copy, args := #[x1, x2], argTypes := #[t, t] })
 (hx1 : a.eval x1 = .slice (some ⟨g, k, none⟩) dl dc) (hx2 : a.eval x2 = .slice (some q) sl sc) (hb : HB w g Z e) (hc : Cs w (some q) cs) (hm : cs.length = m) (hn : m = Nat.min sl dl) (hfit : k + m ≤ Z.size) (h1 : ∀ v ∈ cs, v.oneCell' = true)
 (h : ∀ w', HB w' g (Z.toList.take k ++ cs ++ Z.toList.drop (k + m)).toArray e → Chg (fun b => b = g) w w' → K (a.put o.dst (.int .i64 m)) w') : wpOp P ops Q i K a w := by
 subst hm; obtain ⟨w', hr, h2, h3⟩ := run_copyHB (P := P) hs1 ho hx1 hx2 hb hn hc hfit h1; exact wpOp_run hoi hgd hr (h w' h2 h3)
end
theorem mul64_one (N : Nat) (w : World) (hN : N < 4294967296) : Calls Tryz.prog 130 #[.int .u64 1, .int .u64 N] w fun e w' => e = .returned (.tuple #[.int .u64 0, .int .u64 N]) ∧ w = w' := by
 have hA : bits .and .u64 1 4294967295 = 1 := by decide
 have hZ : bits .and .u64 0 4294967295 = 0 := by decide
 have hB : bits .and .u64 (N : Int) 4294967295 = N := by
  have h := bits_mask .u64 63 (by decide) (fun n h0 h1 => by rw [IntKind.wrap_u64]; omega) 32 (by decide) (N : Int) (by omega) (by omega); have e : ((2 : Int) ^ 32 - 1) = 4294967295 := by decide
  have e2 : ((2 : Int) ^ 32) = 4294967296 := by decide
  rw [e, e2] at h; rw [h]; omega
 have hD : (N : Int) / 4294967296 = 0 := by omega
 have hW : IntKind.u64.wrap (N : Int) = N := by rw [IntKind.wrap_u64]; omega
 have hW0 : IntKind.u64.wrap 0 = 0 := by decide
 go_enter Tryz.func130, Tryz.ntmps130; go_wp2; go_ret2; exact ⟨rfl, rfl⟩
theorem mul_one' (N : Nat) (w : World) (hN : N < 4294967296) : Calls Tryz.prog 127 #[.int .u64 1, .int .u64 N] w fun e w' => e = .returned (.tuple #[.int .u64 0, .int .u64 N]) ∧ w = w' := by
 have h := mul64_one N w hN; go_enter Tryz.func127, Tryz.ntmps127; go_wp2_with fail; refine h.mono ?_; rintro e w1 ⟨rfl, rfl⟩
 go_wp2; go_ret2; exact ⟨rfl, rfl⟩
theorem hb_of_own {w : World} {B e g n : Nat} {vs : List Value} (h : w.ownsRow B e 1 (.slice (some ⟨g, 0, none⟩) n n) n vs) (hn : 1 ≤ n) : HB w g vs.toArray e := by
 obtain ⟨h1, h2⟩ := h; rcases h2 with ⟨hv, h0⟩ | ⟨g', cap, cur, hv, hg, hh, hnn, hm, hs, ht⟩
 · cases hv
 · cases hv
   have e1 : cur.toList = vs := by rw [← ht]; exact (List.take_of_length_le (by simp [hs])).symm
   have e2 : cur = vs.toArray := by rw [← e1]
   rw [← e2]; exact hh
theorem own_of_hb {w : World} {B e g n : Nat} {vs : List Value} (h : HB w g vs.toArray e) (hl : vs.length = n) (hB : B ≤ g) (hm : n ≤ maxLen) : w.ownsRow B e 1 (.slice (some ⟨g, 0, none⟩) n n) n vs :=
 ⟨by omega, .inr ⟨g, n, vs.toArray, rfl, hB, h, Nat.le_refl _, hm, by simp [hl], by simp [← hl]⟩⟩
theorem f32s_rep (n z : Nat) : F32s (List.replicate n (Value.float .f32 z)) (List.replicate n (cn .f32 z)) :=
 ⟨by simp, fun i hi => ⟨z, by simp at hi; simp [hi], by simp at hi; simp [hi]⟩⟩
theorem rep_copy {u v : Value} {N k m : Nat} (hk : k ≤ N) (hm : m = min k (N - k)) : ((List.replicate k u ++ List.replicate (N - k) v).take k ++ List.replicate m u ++ (List.replicate k u ++ List.replicate (N - k) v).drop (k + (List.replicate m u).length)) = List.replicate (k + m) u ++ List.replicate (N - (k + m)) v := by
 have h1 : (List.replicate k u ++ List.replicate (N - k) v).take k = List.replicate k u := by simp
 have h2 : (List.replicate k u ++ List.replicate (N - k) v).drop (k + (List.replicate m u).length) = List.replicate (N - (k + m)) v := by
  rw [List.drop_append]; simp; omega
 rw [h1, h2, List.replicate_append_replicate]
theorem repeatN_any (b c N z : Nat) (w : World) (hp : Cs w (some ⟨b, 0, none⟩) [.float .f32 z]) (hb : b < w.heap.size) (hN1 : 1 ≤ N) (hN : N ≤ 1048576) : Calls Tryz.prog 114 #[.slice (some ⟨b, 0, none⟩) 1 c, .int .i64 N] w (RetFl w (List.replicate N (cn .f32 z))) := by
 have K := hid (mul_one' N); go_enter Tryz.func114, Tryz.ntmps114; go_wp2_with fail; refine (K.out _ (by omega)).mono ?_; rintro e w1 ⟨rfl, rfl⟩
 go_wp2_with (first | ((with_reducible show wpList _ _ _ (Oper.mk _ (Op.makeSlice _ _ _) _ _ _ _ :: _) _ _); refine wl_make w.heap.size N rfl rfl rfl rfl (by unfold maxLen; omega) (by omega) (Nat.le_refl _) ?_; intro g8 w8 own8 e8; rw [made_flts] at own8; have hp8 := hp.ext e8; have hg8 := own_le own8 g8 rfl; have HB8 := hb_of_own own8 hN1) | ((with_reducible show gx7); refine wl_copyHB (m := 1) rfl rfl rfl rfl rfl HB8 hp8 rfl (by show 1 = min 1 N; omega) (by simp <;> omega) (by simp [Value.oneCell']) ?_; intro w9 hb9 ch9)); obtain ⟨u, hu⟩ : ∃ u, u = Value.float .f32 z := ⟨_, rfl⟩; obtain ⟨v0, hv0⟩ : ∃ v0, v0 = Value.float .f32 0 := ⟨_, rfl⟩; have hu1 : u.oneCell' = true := by rw [hu]; rfl
 have hb9' : HB w9 g8 (List.replicate 1 u ++ List.replicate (N - 1) v0).toArray 48 := by
  have h : ((List.replicate N v0).toArray.toList.take 0 ++ [u] ++ (List.replicate N v0).toArray.toList.drop (0 + 1)) = List.replicate 1 u ++ List.replicate (N - 1) v0 := by simp
  rw [← h, hu, hv0]; exact hb9
 have hx9 : Ext w w9 := e8.chg ch9 (fun k hk => by omega); have HU := hid hu; clear hu hv0 hb9 ch9 HB8 own8 e8 hp8; go_loopw [8] (fun nv wr => ∃ k : Nat, 1 ≤ k ∧ k ≤ N ∧ nv = .int .i64 (k : Int) ∧ HB wr g8 (List.replicate k u ++ List.replicate (N - k) v0).toArray 48 ∧ Ext w wr) (fun nv _ => N - (intOf nv).toNat)
 case atStart => exact ⟨1, by omega, hN1, rfl, hb9', hx9⟩
 case round =>
  clear hb9' hx9; obtain ⟨k, hk1, hk, rfl, hB, he⟩ := hrel
  by_cases hlt : k < N
  · obtain ⟨m, hm⟩ : ∃ m, m = min k (N - k) := ⟨_, rfl⟩
    have hm1 : 1 ≤ m := by omega
    have hmN : k + m ≤ N := by omega
    have hcs : Cs wr.drew (some ⟨g8, 0, none⟩) (List.replicate m u) := by
     have h := cs_heap (hB.ext (Ext.drew wr)); refine ⟨fun i x hx => h.cell i x ?_, fun _ => rfl⟩
     have hi : i < m := by
      rcases Nat.lt_or_ge i m with h' | h'
      · exact h'
      · simp [h'] at hx
     have hik : i < k := by omega
     simp only [hi, List.getElem?_replicate, if_true] at hx; rw [← hx]; simp [List.getElem?_append, hik]
    have hHB := hB.ext (Ext.drew wr); have HM := hid hm; have hw5 : IntKind.i64.wrap ((k : Int) + (m : Int)) = (k : Int) + (m : Int) := wrap_in _ (by omega) (by omega); clear hm; go_wp2_with fail; refine wp_region_T (n := 9) (S := fun _ => True) (by kernel_rfl) rfl ?_; refine hs_take (k := 0) (.int .i64 (k : Int)) (by kernel_rfl) rfl rfl (fun _ _ _ h => h) trivial (fun W hW => by go_simp) ?_; simp only [Act.put, ev_tmp, pu1, pu2, pu3, pu4, pu5]; refine hs_take (k := 1) (.slice (some ⟨g8, 0, none⟩) N N) (by kernel_rfl) rfl rfl (fun _ _ _ h => h) trivial (fun W hW => by go_simp) ?_; simp only [Act.put, ev_tmp, pu1, pu2, pu3, pu4, pu5]; refine hs_take (k := 2) (.int .i64 (k : Int)) (by kernel_rfl) rfl rfl (fun _ _ _ h => h) trivial (fun W hW => by go_simp) ?_; simp only [Act.put, ev_tmp, pu1, pu2, pu3, pu4, pu5]; refine hs_take (k := 3) (.slice (some ⟨g8, k, none⟩) (N - k) (N - k)) (by kernel_rfl) rfl rfl (fun _ _ _ h => h) trivial (fun W hW => by go_simp; omega) ?_; simp only [Act.put, ev_tmp, pu1, pu2, pu3, pu4, pu5]; refine hs_take (k := 4) (.slice (some ⟨g8, 0, none⟩) N N) (by kernel_rfl) rfl rfl (fun _ _ _ h => h) trivial (fun W hW => by go_simp) ?_; simp only [Act.put, ev_tmp, pu1, pu2, pu3, pu4, pu5]; refine hs_take (k := 5) (.int .i64 (k : Int)) (by kernel_rfl) rfl rfl (fun _ _ _ h => h) trivial (fun W hW => by go_simp) ?_; simp only [Act.put, ev_tmp, pu1, pu2, pu3, pu4, pu5]; refine hs_take (k := 6) (.slice (some ⟨g8, 0, none⟩) k N) (by kernel_rfl) rfl rfl (fun _ _ _ h => h) trivial (fun W hW => by go_simp) ?_; simp only [Act.put, ev_tmp, pu1, pu2, pu3, pu4, pu5]; refine hs_only (k := 7) (by kernel_rfl) ?_; refine wpOp_copyHB (m := m) (k := k) (dl := N - k) (dc := N - k) (sl := k) (sc := N) rfl rfl rfl rfl (by simp [Act.eval]; first | done | rfl) (by simp [Act.eval]; first | done | rfl) hHB hcs (by simp) (by show m = min k (N - k); exact HM.out) (by simp; omega) (by intro v hv; rw [List.mem_replicate] at hv; rw [hv.2]; exact hu1) ?_; intro w5 hb5 ch5; refine ⟨trivial, ?_⟩; simp only [Act.put, ev_tmp, pu1, pu2, pu3, pu4, pu5]; refine hs_take (k := 8) (.int .i64 ((k : Int) + (m : Int))) (by kernel_rfl) rfl rfl (fun _ _ _ h => h) trivial (fun W hW => by go_simp) ?_; simp only [Act.put, ev_tmp, pu1, pu2, pu3, pu4, pu5]; refine hs_last (k := 9) (by kernel_rfl) rfl ?_; go_wp2; refine ⟨⟨k + m, by omega, by omega, by go_num, ?_, (he.trans (Ext.drew wr)).chg ch5 (fun b hb => by omega)⟩, by simp [intOf]; omega⟩; have h := rep_copy (u := u) (v := v0) hk HM.out; rw [List.length_replicate] at h; rw [← h]; exact hb5
  · obtain rfl : k = N := by omega
    go_wp2; go_ret; rw [Nat.sub_self, List.replicate_zero, List.append_nil] at hB; refine retFl_of (List.length_replicate) (own_of_hb hB (by simp) hg8 (by unfold maxLen; omega)) (by rw [HU.out]; exact f32s_rep _ _) rfl he
theorem filledN_any (R C z : Nat) (w : World) (hR1 : 1 ≤ R) (hR : R ≤ 16) (hC1 : 1 ≤ C) (hC : C ≤ 16) : Calls Tryz.prog 86 #[.int .i64 R, .int .i64 C, .float .f32 z] w (RetTen w R C (List.replicate (R * C) (cn .f32 z))) := by
 obtain ⟨W0, hW0⟩ : ∃ W0, W0 = (w.alloc (.cells #[.int .i64 0, .int .i64 0, .slice none 0 0] 37)).alloc (.cells #[.float .f32 z] 48) := ⟨_, rfl⟩; obtain ⟨E0, s0, b0, b1⟩ := box2 hW0; have b0 : HB W0 w.heap.size #[.int .i64 0, .int .i64 0, .slice none 0 0] 37 := b0; have hp : Cs W0 (some ⟨w.heap.size + 1, 0, none⟩) [.float .f32 z] := cs_heap b1; obtain ⟨N, hN⟩ : ∃ N, N = R * C := ⟨_, rfl⟩; have hN1 : 1 ≤ N := by rw [hN]; exact Nat.mul_le_mul hR1 hC1
 have hN2 : N ≤ 256 := by rw [hN]; exact Nat.mul_le_mul hR hC
 have hNi : IntKind.i64.wrap ((R : Int) * (C : Int)) = (N : Int) := by rw [hN, ← Int.natCast_mul, ← hN]; exact wrap_in _ (by omega) (by omega)
 have K := hid (repeatN_any (w.heap.size + 1) 1 N z W0 hp (by omega) hN1 (by omega)); rw [← hN]; clear hN; go_enter Tryz.func86, Tryz.ntmps86; go_wp2_with fail; rw [← hW0]; clear hW0; refine K.out.mono ?_; rintro e w1 ⟨q, k, vs, rfl, own, hf, e1⟩
 rw [List.length_replicate] at own ⊢; have f1 := b0.ext e1; have n0 := f1.cell 0 rfl; have n1 := f1.cell 1 rfl; have n2 := f1.cell 2 rfl; have m0 := f1.froz 0; have m1 := f1.froz 1; have m2 := f1.froz 2; go_wp2; refine bodyPost_ret (v := .agg #[.int .i64 R, .int .i64 C, .slice q N k]) (by simp [results, Tryz.results86, go_sem, n0, n1, n2, m0, m1, m2]) rfl ?_; exact RetTen.of (List.length_replicate) (own_base (own_chgB (S := fun k => k = w.heap.size) own (by (repeat (first | (with_reducible first | exact Chg.refl _ _ | exact Chg.of_ext (by assumption) | assumption) | ((with_reducible refine Chg.setCell ?_ ?_ _); rotate_left; focus (first | (simp; done) | (simp; omega))) | (with_reducible first | refine Chg.alloc ?_ _ | refine Chg.drew ?_ | refine Chg.trans ?_ (Chg.of_ext (by assumption)))))) (fun k hk => by omega)) (by omega)) hf rfl (Ext.chg (S := fun k => k = w.heap.size) (E0.trans e1) (by (repeat (first | (with_reducible first | exact Chg.refl _ _ | exact Chg.of_ext (by assumption) | assumption) | ((with_reducible refine Chg.setCell ?_ ?_ _); rotate_left; focus (first | (simp; done) | (simp; omega))) | (with_reducible first | refine Chg.alloc ?_ _ | refine Chg.drew ?_ | refine Chg.trans ?_ (Chg.of_ext (by assumption)))))) (fun k hk => by omega))
theorem put_comm {a : Act} {i j : Tmp} (h : i ≠ j) (u v : Value) : (a.put (some i) u).put (some j) v = (a.put (some j) v).put (some i) u := by
 simp [Act.put, Array.setIfInBounds_comm _ _ h]
section
variable {P : Program} {ops : Array Oper} {Q : Exit → Act → World → Prop} {S : World → Prop} {a : Act} {w : World}
def twoB (ops : Array Oper) (listed : Array Bool) (k l : Nat) : Bool :=
 Region.ready .any ops listed == [k, l] && k != ops.size - 1 && l != ops.size - 1 && Region.ready .any ops (listed.setIfInBounds k true) == [l] && Region.ready .any ops (listed.setIfInBounds l true) == [k] && k != l
theorem hs_two {n k l dk dl : Nat} {listed : Array Bool} {ok ol : Oper} {tk tl : TypeId} {Zk Zl : Array Value} (hB : twoB ops listed k l = true) (hok : ops[k]? = some ok) (hol : ops[l]? = some ol) (hgk : ok.guard = none) (hgl : ol.guard = none)
 (hdk : ok.dst = some dk) (hdl : ol.dst = some dl) (hd : dk ≠ dl)
 (hrk : ∀ (W : World) (b : Act), (execOp b.eval ok).run P W = .ok (.value (.pointer (some ⟨W.heap.size, 0, none⟩))) (W.alloc (.cells Zk tk)))
 (hrl : ∀ (W : World) (b : Act), (execOp b.eval ol).run P W = .ok (.value (.pointer (some ⟨W.heap.size, 0, none⟩))) (W.alloc (.cells Zl tl)))
 (hS : ∀ W, Ext w W → S W)
 (h : ∀ bk bl W, Ext w W → w.heap.size ≤ bk → w.heap.size ≤ bl → bk ≠ bl → HB W bk Zk tk → HB W bl Zl tl →
  wpT P ops Q S n ((listed.setIfInBounds k true).setIfInBounds l true) ((a.put (some dk) (.pointer (some ⟨bk, 0, none⟩))).put (some dl) (.pointer (some ⟨bl, 0, none⟩))) W) : wpT P ops Q S (n + 2) listed a w := by
 simp only [twoB, Bool.and_eq_true, beq_iff_eq, bne_iff_ne, ne_eq] at hB; obtain ⟨⟨⟨⟨⟨h1, h2⟩, h3⟩, h4⟩, h5⟩, h6⟩ := hB; refine ⟨by rw [h1]; simp, fun i hi => ?_⟩; rw [h1] at hi; rcases List.mem_cons.1 hi with rfl | hi
 · refine ⟨h2, wpOp_run hok hgk (hrk w a) ?_⟩
   rw [hdk]; have e1 := Ext.alloc w (.cells Zk tk); refine ⟨hS _ e1, by rw [h4]; simp, fun j hj => ?_⟩; rw [h4] at hj; obtain rfl : j = l := by simpa using hj
   refine ⟨h3, wpOp_run hol hgl (hrl _ _) ?_⟩; rw [hdl]; have e2 := Ext.alloc (w.alloc (.cells Zk tk)) (.cells Zl tl); exact ⟨hS _ (e1.trans e2), h _ _ _ (e1.trans e2) (Nat.le_refl _) (by simp) (by simp) ((HB.new w Zk tk).ext e2) (HB.new _ _ _)⟩
 · obtain rfl : i = l := by simpa using hi
   refine ⟨h3, wpOp_run hol hgl (hrl w a) ?_⟩; rw [hdl]; have e1 := Ext.alloc w (.cells Zl tl); refine ⟨hS _ e1, by rw [h5]; simp, fun j hj => ?_⟩; rw [h5] at hj; obtain rfl : j = k := by simpa using hj
   refine ⟨h2, wpOp_run hok hgk (hrk _ _) ?_⟩; rw [hdk]; have e2 := Ext.alloc (w.alloc (.cells Zl tl)) (.cells Zk tk); have h7 := h _ _ _ (e1.trans e2) (by simp) (Nat.le_refl _) (by simp) (HB.new _ Zk tk) ((HB.new w Zl tl).ext e2); rw [Array.setIfInBounds_comm _ _ h6, put_comm hd] at h7; exact ⟨hS _ (e1.trans e2), h7⟩
theorem wpOp_skip {K : Act → World → Prop} {i : Nat} {o : Oper} {w' : World} (ho : ops[i]? = some o) (hg : o.guard = none) (hr : (execOp a.eval o).run P w = .ok .skip w') (h : K (a.put o.dst undef) w') : wpOp P ops Q i K a w := by
 unfold wpOp; simp only [ho]; rw [if_pos (by simp [Region.wanted, hg])]; refine .inl ?_; unfold Oper.wp; rw [hr]; exact h
theorem hs_idx {n k : Nat} {listed : Array Bool} {o : Oper} {t e s b : Nat} {z : Value} [SlTy P t e s z b] {x ix : Operand} {p : Option Addr} {m c : Nat} {kk : IntKind} {i : Int} {j : Nat} (hB : takeB ops listed k = true) (ho : ops[k]? = some o) (hg : o.guard = none) (hQ : ∀ c a w, Q (.panic c) (a.put o.dst (.pointer (some (adr p (j * s))))) w → Q (.panic c) a w) (hS : S w)
 (hop : o.op = .indexAddr t x ix) (hx : a.eval x = .slice p m c) (hi : a.eval ix = .int kk i) (hij : i = j) (hp : p.isSome = true) (hm : j < m)
 (h : wpT P ops Q S n (listed.setIfInBounds k true) (a.put o.dst (.pointer (some (adr p (j * s))))) w) : wpT P ops Q S (n + 1) listed a w := by
 subst hij; exact hs_take _ hB ho hg hQ hS (fun W _ => by simp [execOp, hop, hx, hi, run_indexAt hp (show (0 : Int) ≤ (j : Int) by omega) (show (j : Int) < (m : Int) by omega)]) h
theorem hs_ldE {n k : Nat} {listed : Array Bool} {o : Oper} {t : TypeId} {s : Sh} [ElTy P t s] {x : Operand} {q : Addr} {cs : List Value} (hB : takeB ops listed k = true) (ho : ops[k]? = some o) (hg : o.guard = none) (hQ : ∀ c a w, Q (.panic c) (a.put o.dst (ofCs s cs)) w → Q (.panic c) a w) (hS : S w)
 (hop : o.op = .load t x) (hx : a.eval x = .pointer (some q)) (hl : cs.length = s.sz) (hc : ∀ W, S W → Cs W (some q) cs)
 (h : wpT P ops Q S n (listed.setIfInBounds k true) (a.put o.dst (ofCs s cs)) w) : wpT P ops Q S (n + 1) listed a w :=
 hs_take _ hB ho hg hQ hS (fun W hW => by simp [execOp, hop, hx, run_loadE (P := P) (t := t) (s := s) (hc W hW) hl]) h
end
abbrev shOp : Sh := .pr .int (.pr .int (.pr .int (.pr .flt (.pr shTensor .un))))
def tn (r c : Nat) (xs : List Nat) : shTensor.T := ((r : Int), (c : Int), xs, ())
def t0 : shTensor.T := (0, 0, [], ())
def opV (k : Nat) (z : Nat) (v w : shTensor.T) : shTensor.T :=
 match k with
 | 1 => (v.1, v.2.1, addX v.2.2.1.length v.2.2.1 w.2.2.1, ())
 | 2 => (v.1, v.2.1, addRX v.2.2.1.length v.2.1.toNat v.2.2.1 w.2.2.1, ())
 | 3 => (v.1, v.2.1, mulX v.2.2.1.length v.2.2.1 w.2.2.1, ())
 | 4 => (v.1, v.2.1, mulRX v.2.2.1.length v.2.1.toNat v.2.2.1 w.2.2.1, ())
 | 5 => (v.1, v.2.1, sclX v.2.2.1.length v.2.2.1 z, ())
 | 6 => (v.1, w.2.1, mmX v.1.toNat v.2.1.toNat w.2.1.toNat v.2.2.1 w.2.2.1, ())
 | 7 => (v.2.1, v.1, turnX v.1.toNat v.2.1.toNat v.2.2.1, ())
 | 8 => (v.1, v.2.1, rluX v.2.2.1.length v.2.2.1, ())
 | 9 => (v.1, v.2.1, mulX v.2.2.1.length v.2.2.1 v.2.2.1, ())
 | _ => (1, 1, [sumG (fun j => (v.2.2.1 : List Nat).getD j 0) v.2.2.1.length], ())
def mkOp (k a b z : Nat) (t : shTensor.T) : shOp.T := ((k : Int), (a : Int), (b : Int), z, t, ())
def valT (o : shOp.T) (vs : List shTensor.T) : shTensor.T := if o.1 = 0 then o.2.2.2.2.1 else opV o.1.toNat o.2.2.2.1 (vs.getD o.2.1.toNat t0) (vs.getD o.2.2.1.toNat t0)
def o0 : shOp.T := (0, 0, 0, 0, t0, ())
def valsT (ops : List shOp.T) : Nat → List shTensor.T
 | 0 => []
 | i + 1 => valsT ops i ++ [valT (ops.getD i o0) (valsT ops i)]
theorem valsT_len (ops : List shOp.T) : ∀ i, (valsT ops i).length = i
 | 0 => rfl
 | i + 1 => by simp [valsT, valsT_len ops i]
def vAt (ops : List shOp.T) (i : Nat) : shTensor.T := (valsT ops (i + 1)).getD i t0
theorem valsT_at (ops : List shOp.T) {j : Nat} : ∀ {i : Nat}, j < i → (valsT ops i).getD j t0 = vAt ops j
 | i + 1, h => by
   by_cases hj : j = i
   · subst hj; rfl
   · have h1 : j < i := by omega
     rw [← valsT_at ops h1]; have h2 := valsT_len ops i; simp only [valsT]; rw [getD_appl _ _ _ _ (by omega)]
inductive OpOk (sh : Nat → Nat × Nat) (i : Nat) : shOp.T → Prop
 | inp (r c : Nat) (xs : List Nat) : xs.length = r * c → sh i = (r, c) → OpOk sh i (mkOp 0 0 0 0 (tn r c xs))
 | add (a b : Nat) : a < i → b < i → sh b = sh a → sh i = sh a → OpOk sh i (mkOp 1 a b 0 t0)
 | addR (a b : Nat) : a < i → b < i → sh b = (1, (sh a).2) → sh i = sh a → OpOk sh i (mkOp 2 a b 0 t0)
 | mul (a b : Nat) : a < i → b < i → sh b = sh a → sh i = sh a → OpOk sh i (mkOp 3 a b 0 t0)
 | mulR (a b : Nat) : a < i → b < i → sh b = (1, (sh a).2) → sh i = sh a → OpOk sh i (mkOp 4 a b 0 t0)
 | scl (a z : Nat) : a < i → sh i = sh a → OpOk sh i (mkOp 5 a 0 z t0)
 | mm (a b : Nat) : a < i → b < i → (sh b).1 = (sh a).2 → sh i = ((sh a).1, (sh b).2) → OpOk sh i (mkOp 6 a b 0 t0)
 | turn (a : Nat) : a < i → sh i = ((sh a).2, (sh a).1) → OpOk sh i (mkOp 7 a 0 0 t0)
 | relu (a : Nat) : a < i → sh i = sh a → OpOk sh i (mkOp 8 a 0 0 t0)
 | sqr (a : Nat) : a < i → sh i = sh a → OpOk sh i (mkOp 9 a 0 0 t0)
 | sum (a : Nat) : a < i → sh i = (1, 1) → OpOk sh i (mkOp 10 a 0 0 t0)
structure TapeOk (sh : Nat → Nat × Nat) (ops : List shOp.T) : Prop where
 ok : ∀ i, i < ops.length → OpOk sh i (ops.getD i o0)
 side : ∀ i, i < ops.length → 1 ≤ (sh i).1 ∧ (sh i).1 ≤ 16 ∧ 1 ≤ (sh i).2 ∧ (sh i).2 ≤ 16
 len : ops.length ≤ 48
def Shaped (s : Nat × Nat) (t : shTensor.T) : Prop := ∃ xs : List Nat, t = tn s.1 s.2 xs ∧ xs.length = s.1 * s.2
theorem valT_shaped {sh : Nat → Nat × Nat} {i : Nat} {o : shOp.T} {vs : List shTensor.T} (h : OpOk sh i o) (hv : ∀ j, j < i → Shaped (sh j) (vs.getD j t0)) : Shaped (sh i) (valT o vs) := by
 have key : ∀ (a : Nat), a < i → ∃ xs : List Nat, vs.getD a t0 = tn (sh a).1 (sh a).2 xs ∧ xs.length = (sh a).1 * (sh a).2 := fun a ha => hv a ha
 cases h with
 | inp r c xs hl hs => exact ⟨xs, by rw [hs]; rfl, by rw [hs]; exact hl⟩
 | add a b ha hb h1 h2 =>
   obtain ⟨xs, e, l⟩ := key a ha; refine ⟨_, by rw [h2]; simp only [valT, mkOp, Int.toNat_natCast, e]; rfl, ?_⟩; simp only [tn, addX, ntab_len]; rw [h2]; exact l
 | addR a b ha hb h1 h2 =>
   obtain ⟨xs, e, l⟩ := key a ha; refine ⟨_, by rw [h2]; simp only [valT, mkOp, Int.toNat_natCast, e]; rfl, ?_⟩; simp only [tn, addRX, ntab_len]; rw [h2]; exact l
 | mul a b ha hb h1 h2 =>
   obtain ⟨xs, e, l⟩ := key a ha; refine ⟨_, by rw [h2]; simp only [valT, mkOp, Int.toNat_natCast, e]; rfl, ?_⟩; simp only [tn, mulX, ntab_len]; rw [h2]; exact l
 | mulR a b ha hb h1 h2 =>
   obtain ⟨xs, e, l⟩ := key a ha; refine ⟨_, by rw [h2]; simp only [valT, mkOp, Int.toNat_natCast, e]; rfl, ?_⟩; simp only [tn, mulRX, ntab_len]; rw [h2]; exact l
 | scl a z ha h2 =>
   obtain ⟨xs, e, l⟩ := key a ha; refine ⟨_, by rw [h2]; simp only [valT, mkOp, Int.toNat_natCast, e]; rfl, ?_⟩; simp only [tn, sclX, ntab_len]; rw [h2]; exact l
 | mm a b ha hb h1 h2 =>
   obtain ⟨xs, e, l⟩ := key a ha; obtain ⟨ys, e', l'⟩ := key b hb; refine ⟨_, by rw [h2]; simp only [valT, mkOp, Int.toNat_natCast, e, e']; rfl, ?_⟩; simp only [tn, mmX, ntab_len, Int.toNat_natCast]; rw [h2]
 | turn a ha h2 =>
   obtain ⟨xs, e, l⟩ := key a ha; refine ⟨_, by rw [h2]; simp only [valT, mkOp, Int.toNat_natCast, e]; rfl, ?_⟩; simp only [tn, turnX, ntab_len, Int.toNat_natCast]; rw [h2]
 | relu a ha h2 =>
   obtain ⟨xs, e, l⟩ := key a ha; refine ⟨_, by rw [h2]; simp only [valT, mkOp, Int.toNat_natCast, e]; rfl, ?_⟩; simp only [tn, rluX, ntab_len]; rw [h2]; exact l
 | sqr a ha h2 =>
   obtain ⟨xs, e, l⟩ := key a ha; refine ⟨_, by rw [h2]; simp only [valT, mkOp, Int.toNat_natCast, e]; rfl, ?_⟩; simp only [tn, mulX, ntab_len]; rw [h2]; exact l
 | sum a ha h2 => exact ⟨_, by rw [h2]; rfl, by rw [h2]; rfl⟩
theorem vals_shaped {sh : Nat → Nat × Nat} {ops : List shOp.T} (h : TapeOk sh ops) : ∀ i, i ≤ ops.length → ∀ j, j < i → Shaped (sh j) ((valsT ops i).getD j t0)
 | 0, _, j, hj => by omega
 | i + 1, hi, j, hj => by
   have ih := vals_shaped h i (by omega)
   by_cases hji : j = i
   · subst hji
     rw [show (valsT ops (j + 1)).getD j t0 = valT (ops.getD j o0) (valsT ops j) by
      have := valsT_len ops j; simp only [valsT]; rw [getD_appr _ _ _ _ (by omega)]; simp [this]]
     exact valT_shaped (h.ok j (by omega)) ih
   · have h1 : j < i := by omega
     rw [valsT_at ops hj, ← valsT_at ops h1]; exact ih j h1
theorem vAt_shaped {sh : Nat → Nat × Nat} {ops : List shOp.T} (h : TapeOk sh ops) {i : Nat} (hi : i < ops.length) : Shaped (sh i) (vAt ops i) := vals_shaped h (i + 1) (by omega) i (by omega)
def tMul (a b : shTensor.T) : shTensor.T := (a.1, a.2.1, mulX a.2.2.1.length a.2.2.1 b.2.2.1, ())
def tAdd (a b : shTensor.T) : shTensor.T := (a.1, a.2.1, addX a.2.2.1.length a.2.2.1 b.2.2.1, ())
def tTurn (v : shTensor.T) : shTensor.T := (v.2.1, v.1, turnX v.1.toNat v.2.1.toNat v.2.2.1, ())
def tMM (v w : shTensor.T) : shTensor.T := (v.1, w.2.1, mmX v.1.toNat v.2.1.toNat w.2.1.toNat v.2.2.1 w.2.2.1, ())
def tFill (r c : Nat) (z : Nat) : shTensor.T := tn r c (List.replicate (r * c) z)
def partA (k z : Nat) (g v w : shTensor.T) : shTensor.T :=
 match k with
 | 1 => g
 | 2 => g
 | 3 => tMul g w
 | 4 => (g.1, g.2.1, mulRX g.2.2.1.length g.2.1.toNat g.2.2.1 w.2.2.1, ())
 | 5 => (g.1, g.2.1, sclX g.2.2.1.length g.2.2.1 z, ())
 | 6 => tMM g (tTurn w)
 | 7 => tTurn g
 | 8 => (v.1, v.2.1, rpX v.2.2.1.length v.2.2.1 g.2.2.1, ())
 | 9 => tMul g (tAdd v v)
 | _ => tFill v.1.toNat v.2.1.toNat ((g.2.2.1 : List Nat).getD 0 0)
def partB (k : Nat) (g v w : shTensor.T) : shTensor.T :=
 match k with
 | 1 => g
 | 2 => (1, g.2.1, sumRX g.2.1.toNat g.2.2.1, ())
 | 3 => tMul g v
 | 4 => (1, g.2.1, sumRX g.2.1.toNat (tMul g v).2.2.1, ())
 | 6 => tMM (tTurn v) g
 | _ => t0
def twoK (k : Nat) : Bool := k == 1 || k == 2 || k == 3 || k == 4 || k == 6
def giveG (gs : List (Option shTensor.T)) (to : Nat) (p : shTensor.T) : List (Option shTensor.T) :=
 gs.set to (some (match gs.getD to none with | some q => tAdd q p | none => p))
def stepG (ops : List shOp.T) (i : Nat) (gs : List (Option shTensor.T)) : List (Option shTensor.T) :=
 match gs.getD i none with
 | none => gs
 | some g =>
   let o := ops.getD i o0
   if o.1 = 0 then gs else
   let v := vAt ops o.2.1.toNat
   let w := vAt ops o.2.2.1.toNat
   let gs1 := giveG gs o.2.1.toNat (partA o.1.toNat o.2.2.2.1 g v w)
   if twoK o.1.toNat then giveG gs1 o.2.2.1.toNat (partB o.1.toNat g v w) else gs1
def oneB32 : Nat := 1065353216
def gradT (ops : List shOp.T) : Nat → List (Option shTensor.T)
 | 0 => (List.replicate ops.length none).set (ops.length - 1) (some (tFill (vAt ops (ops.length - 1)).1.toNat (vAt ops (ops.length - 1)).2.1.toNat oneB32))
 | m + 1 => stepG ops (ops.length - 1 - m) (gradT ops m)
def zeroT (ops : List shOp.T) (j : Nat) : shTensor.T := tFill (vAt ops j).1.toNat (vAt ops j).2.1.toNat 0
def gAt (ops : List shOp.T) (gs : List (Option shTensor.T)) (j : Nat) : shTensor.T := (gs.getD j none).getD (zeroT ops j)
def gradsT (ops : List shOp.T) : List shTensor.T := (List.range ops.length).map (gAt ops (gradT ops ops.length))
theorem giveG_len (gs : List (Option shTensor.T)) (to : Nat) (p : shTensor.T) : (giveG gs to p).length = gs.length := by simp [giveG]
theorem stepG_len (ops : List shOp.T) (i : Nat) (gs : List (Option shTensor.T)) : (stepG ops i gs).length = gs.length := by
 unfold stepG
 split
 · rfl
 · dsimp only
   split
   · rfl
   · split
     · exact (giveG_len _ _ _).trans (giveG_len _ _ _)
     · exact giveG_len _ _ _
theorem gradT_len (ops : List shOp.T) : ∀ m, (gradT ops m).length = ops.length
 | 0 => by simp [gradT]
 | m + 1 => by rw [gradT, stepG_len, gradT_len ops m]
def GsOk (sh : Nat → Nat × Nat) (gs : List (Option shTensor.T)) : Prop := ∀ j t, gs.getD j none = some t → Shaped (sh j) t
theorem tMul_shaped {s : Nat × Nat} {a : shTensor.T} (b : shTensor.T) (h : Shaped s a) : Shaped s (tMul a b) := by
 obtain ⟨xs, rfl, l⟩ := h; exact ⟨_, rfl, by simp only [tn, mulX, ntab_len]; exact l⟩
theorem tAdd_shaped {s : Nat × Nat} {a : shTensor.T} (b : shTensor.T) (h : Shaped s a) : Shaped s (tAdd a b) := by
 obtain ⟨xs, rfl, l⟩ := h; exact ⟨_, rfl, by simp only [tn, addX, ntab_len]; exact l⟩
theorem tTurn_shaped {s : Nat × Nat} {a : shTensor.T} (h : Shaped s a) : Shaped (s.2, s.1) (tTurn a) := by
 obtain ⟨xs, rfl, l⟩ := h; exact ⟨_, rfl, by simp only [tn, turnX, ntab_len, Int.toNat_natCast]⟩
theorem tMM_shaped {s t : Nat × Nat} {a b : shTensor.T} (h : Shaped s a) (k : Shaped t b) : Shaped (s.1, t.2) (tMM a b) := by
 obtain ⟨xs, rfl, l⟩ := h; obtain ⟨ys, rfl, l'⟩ := k; exact ⟨_, rfl, by simp only [tn, mmX, ntab_len, Int.toNat_natCast]⟩
theorem tFill_shaped (r c z : Nat) : Shaped (r, c) (tFill r c z) := ⟨_, rfl, by simp⟩
theorem partA_shaped {sh : Nat → Nat × Nat} {i : Nat} {o : shOp.T} {g v w : shTensor.T} (h : OpOk sh i o) (hk : o.1 ≠ 0) (hg : Shaped (sh i) g) (hv : Shaped (sh o.2.1.toNat) v) (hw : twoK o.1.toNat = true → Shaped (sh o.2.2.1.toNat) w) :
 Shaped (sh o.2.1.toNat) (partA o.1.toNat o.2.2.2.1 g v w) := by
 cases h with
 | inp => exact absurd rfl hk
 | add a b ha hb h1 h2 => rw [h2] at hg; exact hg
 | addR a b ha hb h1 h2 => rw [h2] at hg; exact hg
 | mul a b ha hb h1 h2 => rw [h2] at hg; exact tMul_shaped _ hg
 | mulR a b ha hb h1 h2 =>
   rw [h2] at hg; obtain ⟨xs, rfl, l⟩ := hg; exact ⟨_, rfl, by simp only [tn, mulRX, ntab_len]; exact l⟩
 | scl a z ha h2 =>
   rw [h2] at hg; obtain ⟨xs, rfl, l⟩ := hg; exact ⟨_, rfl, by simp only [tn, sclX, ntab_len]; exact l⟩
 | mm a b ha hb h1 h2 =>
   rw [h2] at hg; have h3 := tMM_shaped hg (tTurn_shaped (hw rfl)); have h4 : ((sh a).1, (sh b).1) = sh a := by rw [h1]
   exact h4 ▸ h3
 | turn a ha h2 => rw [h2] at hg; exact tTurn_shaped hg
 | relu a ha h2 =>
   obtain ⟨xs, rfl, l⟩ := hv; exact ⟨_, rfl, by simp only [tn, rpX, ntab_len]; exact l⟩
 | sqr a ha h2 => rw [h2] at hg; exact tMul_shaped _ hg
 | sum a ha h2 =>
   obtain ⟨xs, rfl, l⟩ := hv; exact tFill_shaped _ _ _
theorem partB_shaped {sh : Nat → Nat × Nat} {i : Nat} {o : shOp.T} {g v w : shTensor.T} (h : OpOk sh i o) (hk : twoK o.1.toNat = true) (hg : Shaped (sh i) g) (hv : Shaped (sh o.2.1.toNat) v) :
 Shaped (sh o.2.2.1.toNat) (partB o.1.toNat g v w) := by
 cases h with
 | inp => cases hk
 | add a b ha hb h1 h2 => rw [h2, ← h1] at hg; exact hg
 | addR a b ha hb h1 h2 =>
   rw [h2] at hg; obtain ⟨xs, rfl, l⟩ := hg; exact ⟨sumRX (sh a).2 xs, by rw [show sh (mkOp 2 a b 0 t0).2.2.1.toNat = (1, (sh a).2) from h1]; rfl, by rw [show sh (mkOp 2 a b 0 t0).2.2.1.toNat = (1, (sh a).2) from h1]; simp only [sumRX, ntab_len]; omega⟩
 | mul a b ha hb h1 h2 => rw [h2, ← h1] at hg; exact tMul_shaped _ hg
 | mulR a b ha hb h1 h2 =>
   rw [h2] at hg; obtain ⟨xs, rfl, l⟩ := hg; exact ⟨sumRX (sh a).2 (tMul (tn (sh a).1 (sh a).2 xs) v).2.2.1, by rw [show sh (mkOp 4 a b 0 t0).2.2.1.toNat = (1, (sh a).2) from h1]; rfl, by rw [show sh (mkOp 4 a b 0 t0).2.2.1.toNat = (1, (sh a).2) from h1]; simp only [sumRX, ntab_len]; omega⟩
 | scl => cases hk
 | mm a b ha hb h1 h2 =>
   rw [h2] at hg; have h3 := tMM_shaped (tTurn_shaped hv) hg; have h4 : ((sh a).2, (sh b).2) = sh b := by rw [← h1]
   exact h4 ▸ h3
 | turn => cases hk
 | relu => cases hk
 | sqr => cases hk
 | sum => cases hk
theorem giveG_get (gs : List (Option shTensor.T)) (to : Nat) (p : shTensor.T) (hto : to < gs.length) (j : Nat) : (giveG gs to p).getD j none = if j = to then some (match gs.getD to none with | some q => tAdd q p | none => p) else gs.getD j none := by
 unfold giveG
 by_cases h : j = to
 · subst h; simp [hto]
 · rw [if_neg h]
   simp [List.getD_eq_getElem?_getD, List.getElem?_set, Ne.symm h]
theorem giveG_ok {sh : Nat → Nat × Nat} {gs : List (Option shTensor.T)} {to : Nat} {p : shTensor.T} (h : GsOk sh gs) (hp : Shaped (sh to) p) (hto : to < gs.length) : GsOk sh (giveG gs to p) := by
 intro j t hj; rw [giveG_get gs to p hto j] at hj
 by_cases e : j = to
 · rw [if_pos e] at hj
   subst e
   cases hq : gs.getD j none with
   | none => rw [hq] at hj; cases hj; exact hp
   | some q => rw [hq] at hj; cases hj; exact tAdd_shaped _ (h j q hq)
 · rw [if_neg e] at hj; exact h j t hj
theorem op_lt {sh : Nat → Nat × Nat} {i : Nat} {o : shOp.T} (h : OpOk sh i o) (hk : o.1 ≠ 0) : o.2.1.toNat < i ∧ (twoK o.1.toNat = true → o.2.2.1.toNat < i) := by
 cases h <;> first | exact absurd rfl hk | (refine ⟨by simp only [mkOp, Int.toNat_natCast]; assumption, fun h => ?_⟩; first | cases h; done | (simp only [mkOp, Int.toNat_natCast]; assumption))
theorem stepG_ok {sh : Nat → Nat × Nat} {ops : List shOp.T} (hT : TapeOk sh ops) {i : Nat} (hi : i < ops.length) {gs : List (Option shTensor.T)} (hl : gs.length = ops.length) (h : GsOk sh gs) : GsOk sh (stepG ops i gs) := by
 unfold stepG
 cases hg : gs.getD i none with
 | none => exact h
 | some g =>
   dsimp only
   by_cases hk : (ops.getD i o0).1 = 0
   · rw [if_pos hk]; exact h
   · rw [if_neg hk]
     have ho := hT.ok i hi; obtain ⟨l1, l2⟩ := op_lt ho hk; have hgs := h i g hg; have hv := vAt_shaped hT (show (ops.getD i o0).2.1.toNat < ops.length by omega); have h1 := giveG_ok (gs := gs) h (partA_shaped ho hk hgs hv (w := vAt ops (ops.getD i o0).2.2.1.toNat) (fun h2 => vAt_shaped hT (by have := l2 h2; omega))) (by omega)
     by_cases h2 : twoK (ops.getD i o0).1.toNat = true
     · rw [if_pos h2]
       exact giveG_ok h1 (partB_shaped ho h2 hgs hv) (by rw [giveG_len]; have := l2 h2; omega)
     · rw [if_neg h2]; exact h1
theorem gradT_ok {sh : Nat → Nat × Nat} {ops : List shOp.T} (hT : TapeOk sh ops) (h0 : 1 ≤ ops.length) : ∀ m, m ≤ ops.length → GsOk sh (gradT ops m)
 | 0, _ => by
   intro j t hj; unfold gradT at hj; have hl := vAt_shaped hT (show ops.length - 1 < ops.length by omega)
   by_cases e : j = ops.length - 1
   · subst e
     have : ((List.replicate ops.length (none : Option shTensor.T)).set (ops.length - 1) (some (tFill (vAt ops (ops.length - 1)).1.toNat (vAt ops (ops.length - 1)).2.1.toNat oneB32))).getD (ops.length - 1) none = some (tFill (vAt ops (ops.length - 1)).1.toNat (vAt ops (ops.length - 1)).2.1.toNat oneB32) := by simp [show ops.length - 1 < ops.length by omega]
     rw [this] at hj
     cases hj
     obtain ⟨xs, e2, _⟩ := hl; rw [e2]; exact tFill_shaped _ _ _
   · rw [List.getD_eq_getElem?_getD, List.getElem?_set, if_neg (Ne.symm e), List.getElem?_replicate] at hj
     split at hj <;> simp at hj
 | m + 1, hm => stepG_ok hT (by omega) (gradT_len ops m) (gradT_ok hT h0 m (by omega))
theorem OpOk.congr {sh sh' : Nat → Nat × Nat} {i : Nat} {o : shOp.T} (h : OpOk sh i o) (he : ∀ j, j ≤ i → sh' j = sh j) : OpOk sh' i o := by
 cases h with
 | inp r c xs hl hs => exact .inp r c xs hl (by rw [he i (by omega)]; exact hs)
 | add a b ha hb h1 h2 => exact .add a b ha hb (by rw [he a (by omega), he b (by omega)]; exact h1) (by rw [he i (by omega), he a (by omega)]; exact h2)
 | addR a b ha hb h1 h2 => exact .addR a b ha hb (by rw [he a (by omega), he b (by omega)]; exact h1) (by rw [he i (by omega), he a (by omega)]; exact h2)
 | mul a b ha hb h1 h2 => exact .mul a b ha hb (by rw [he a (by omega), he b (by omega)]; exact h1) (by rw [he i (by omega), he a (by omega)]; exact h2)
 | mulR a b ha hb h1 h2 => exact .mulR a b ha hb (by rw [he a (by omega), he b (by omega)]; exact h1) (by rw [he i (by omega), he a (by omega)]; exact h2)
 | scl a z ha h2 => exact .scl a z ha (by rw [he i (by omega), he a (by omega)]; exact h2)
 | mm a b ha hb h1 h2 => exact .mm a b ha hb (by rw [he a (by omega), he b (by omega)]; exact h1) (by rw [he i (by omega), he a (by omega), he b (by omega)]; exact h2)
 | turn a ha h2 => exact .turn a ha (by rw [he i (by omega), he a (by omega)]; exact h2)
 | relu a ha h2 => exact .relu a ha (by rw [he i (by omega), he a (by omega)]; exact h2)
 | sqr a ha h2 => exact .sqr a ha (by rw [he i (by omega), he a (by omega)]; exact h2)
 | sum a ha h2 => exact .sum a ha (by rw [he i (by omega)]; exact h2)
def shUp (sh : Nat → Nat × Nat) (n : Nat) (s : Nat × Nat) : Nat → Nat × Nat := fun j => if j = n then s else sh j
theorem shUp_at (sh : Nat → Nat × Nat) (n : Nat) (s : Nat × Nat) : shUp sh n s n = s := by simp [shUp]
theorem shUp_lt (sh : Nat → Nat × Nat) {n j : Nat} (s : Nat × Nat) (h : j < n) : shUp sh n s j = sh j := by simp [shUp, Nat.ne_of_lt h]
def SideOk (s : Nat × Nat) : Prop := 1 ≤ s.1 ∧ s.1 ≤ 16 ∧ 1 ≤ s.2 ∧ s.2 ≤ 16
theorem TapeOk.snoc {sh : Nat → Nat × Nat} {ops : List shOp.T} (h : TapeOk sh ops) {o : shOp.T} {s : Nat × Nat} {n : Nat} (hn : ops.length = n) (ho : OpOk (shUp sh n s) n o) (hs : SideOk s) (hl : n + 1 ≤ 48) : TapeOk (shUp sh n s) (ops ++ [o]) := by
 subst hn; refine ⟨fun i hi => ?_, fun i hi => ?_, by simp; omega⟩
 · by_cases e : i = ops.length
   · subst e
     rw [getD_appr _ _ _ _ (by omega)]
     simpa using ho
   · have hi' : i < ops.length := by simp at hi; omega
     rw [getD_appl _ _ _ _ hi']; exact (h.ok i hi').congr fun j hj => shUp_lt _ _ (by omega)
 · by_cases e : i = ops.length
   · subst e; rw [shUp_at]; exact hs
   · have hi' : i < ops.length := by simp at hi; omega
     rw [shUp_lt _ _ hi']; exact h.side i hi'
def negOne : Nat := 3212836864
abbrev Mt := List shOp.T × List Int × Nat
def mtStep (l : shLayer.T) (s : Mt) : Mt :=
 let n := s.1.length
 if l.1 = 0 then (s.1 ++ [mkOp 0 0 0 0 (l.2.2.1, l.2.1, l.2.2.2.1, ()), mkOp 0 0 0 0 (1, l.2.2.1, l.2.2.2.2.1, ()), mkOp 7 n 0 0 t0, mkOp 6 s.2.2 (n + 2) 0 t0, mkOp 2 (n + 3) (n + 1) 0 t0], s.2.1 ++ [(n : Int), ((n + 1 : Nat) : Int)], n + 4)
 else if l.1 = 1 then (s.1 ++ [mkOp 8 s.2.2 0 0 t0], s.2.1, n)
 else (s.1 ++ [mkOp 0 0 0 0 (1, l.2.1, l.2.2.2.1, ()), mkOp 4 s.2.2 n 0 t0], s.2.1 ++ [(n : Int)], n + 1)
def mtTo (L : List shLayer.T) (x y : shTensor.T) : Nat → Mt
 | 0 => ([mkOp 0 0 0 0 x, mkOp 0 0 0 0 y], [], 0)
 | i + 1 => mtStep (L.getD i (0, 0, 0, [], [], ())) (mtTo L x y i)
def mtEnd (s : Mt) (z : Nat) : List shOp.T := s.1 ++ [mkOp 5 1 0 negOne t0, mkOp 1 s.2.2 s.1.length 0 t0, mkOp 9 (s.1.length + 1) 0 0 t0, mkOp 10 (s.1.length + 2) 0 0 t0, mkOp 5 (s.1.length + 3) 0 z t0]
def mtape (L : List shLayer.T) (x y : shTensor.T) (z : Nat) : List shOp.T := mtEnd (mtTo L x y L.length) z
def mweights (L : List shLayer.T) (x y : shTensor.T) : List Int := (mtTo L x y L.length).2.1
theorem mtStep_len (l : shLayer.T) (s : Mt) : s.1.length < (mtStep l s).1.length ∧ (mtStep l s).1.length ≤ s.1.length + 5 ∧ (mtStep l s).2.2 + 1 = (mtStep l s).1.length := by
 unfold mtStep; dsimp only
 split
 · simp
 · split <;> simp
theorem mtTo_len (L : List shLayer.T) (x y : shTensor.T) : ∀ i, 2 ≤ (mtTo L x y i).1.length ∧ (mtTo L x y i).1.length ≤ 2 + 5 * i ∧ (mtTo L x y i).2.2 < (mtTo L x y i).1.length
 | 0 => by simp [mtTo]
 | i + 1 => by
   have h := mtTo_len L x y i; have k := mtStep_len (L.getD i (0, 0, 0, [], [], ())) (mtTo L x y i); simp only [mtTo]; omega
end Go.Proofs.YtlimabbeaimdgaaGreat
