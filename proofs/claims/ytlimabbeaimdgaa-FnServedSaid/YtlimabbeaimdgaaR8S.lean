/- r8Same; requests that are drawn. -/
import Derived.Test.YtlimabbeaimdgaaDr5
import Derived.Test.YtlimabbeaimdgaaDr6
import Derived.Test.YtlimabbeaimdgaaKc
import Derived.Test.YtlimabbeaimdgaaKg
namespace Go.Proofs.Ytlimabbeaimdgaa
set_option linter.unusedSimpArgs false
set_option linter.unusedVariables false
open Go.RowKit

set_option maxRecDepth 100000 in
set_option maxHeartbeats 4000000 in
theorem r8Same_any (p q : Option Addr) (n c d : Nat) (us vs : List Value) (xs : List Nat) (w : World) (hx : xs.length = n) (hn : n ≤ 1048576) (hp : Cs w p us) (hf : F32s us xs) (hq : Cs w q vs) (hg : F32s vs xs) (hb : ∀ x ∈ xs, x < 4294967296) :
    Calls Try.prog 37 #[.slice p n c, .slice q n d] w fun e w' => e = .returned (.bool true) ∧ Ext w w' := by
  have HU := hid (hf.1.trans hx)
  have HV := hid (hg.1.trans hx)
  have hnn := bne_f (rfl : (n : Int) = (n : Int))
  go_enter Try.func37, Try.ntmps37
  go_wp2
  go_loopw [5] (fun iv wr => ∃ i : Nat, i ≤ n ∧ iv = .int .i64 i ∧ Ext w wr) (fun iv _ => n - (intOf iv).toNat)
  case atStart => exact ⟨0, by omega, rfl, Ext.refl _⟩
  case round =>
    obtain ⟨i, hi, rfl, he⟩ := hrel
    by_cases hlt : i < n
    · have hix : i < xs.length := by omega
      obtain ⟨r1, hr1, g1⟩ := hf.get hix
      obtain ⟨r2, hr2, g2⟩ := hg.get hix
      have hbx : xs.getD i 0 < 4294967296 := hb _ (by rw [show xs.getD i 0 = xs[i] by simp [hix]]; exact List.getElem_mem hix)
      have C := hid (fun W => SameNumber_any r1 r2 W (by rw [g1]; exact hbx) (by rw [g2]; exact hbx))
      rw [g1, g2, decide_eq_true rfl] at C
      have R1 := hid hr1
      have R2 := hid hr2
      clear hr1 hr2 g1 g2 hbx
      have k1 := (hp.ext he).ext (Ext.drew wr)
      have k2 := (hq.ext he).ext (Ext.drew wr)
      go_wp2_with fail
      refine wp_region_xall (F := fun _ _ u => u = .bool true) (by kernel_rfl) (by kernel_rfl) (by kernel_rfl) ?_
      intro wf hwf
      repeat (first
        | (refine x_skip rfl ?_; simp only [Act.put, ev_tmp, List.setIfInBounds_toArray, List.set_cons_succ, List.set_cons_zero, List.getD_cons_succ, List.getD_cons_zero])
        | (refine x_mv rfl rfl rfl ?_; simp only [Act.put, ev_tmp, List.setIfInBounds_toArray, List.set_cons_succ, List.set_cons_zero, List.getD_cons_succ, List.getD_cons_zero])
        | (refine x_as rfl rfl rfl ?_; simp only [Act.put, ev_tmp, List.setIfInBounds_toArray, List.set_cons_succ, List.set_cons_zero, List.getD_cons_succ, List.getD_cons_zero])
        | ((with_reducible show wpX _ _ _ _ _ _ (Oper.mk _ (Op.indexAddr _ _ _) _ _ _ _ :: Oper.mk _ (Op.load _ _) _ _ _ _ :: _) _); refine x_idxload rfl rfl (fun _ => rfl) rfl (fun _ => rfl) rfl rfl k1 HU.out (by omega) (by omega) ?_; intro u hu; rw [Int.toNat_natCast, R1.out] at hu; cases hu; simp only [Act.put, ev_tmp, List.setIfInBounds_toArray, List.set_cons_succ, List.set_cons_zero, List.getD_cons_succ, List.getD_cons_zero])
        | ((with_reducible show wpX _ _ _ _ _ _ (Oper.mk _ (Op.indexAddr _ _ _) _ _ _ _ :: Oper.mk _ (Op.load _ _) _ _ _ _ :: _) _); refine x_idxload rfl rfl (fun _ => rfl) rfl (fun _ => rfl) rfl rfl k2 HV.out (by omega) (by omega) ?_; intro u hu; rw [Int.toNat_natCast, R2.out] at hu; cases hu; simp only [Act.put, ev_tmp, List.setIfInBounds_toArray, List.set_cons_succ, List.set_cons_zero, List.getD_cons_succ, List.getD_cons_zero])
        | ((with_reducible show wpX _ _ _ _ _ _ (Oper.mk _ (Op.call _) _ _ _ _ :: _) _); refine x_callf (f := 32) (args := #[.float .f32 r1, .float .f32 r2]) rfl rfl Try.func32 rfl (by kernel_rfl) ?_ ?_ ?_; (focus (simp [Act.eval]; done)); (focus (intro w1 hw1; exact ((C.out w1).mono fun e w3 h => ⟨_, h.1, by rw [h.2]; exact Ext.refl _, rfl⟩))); rintro u w3 e3 e4 hu; subst hu; simp only [Act.put, ev_tmp, List.setIfInBounds_toArray, List.set_cons_succ, List.set_cons_zero, List.getD_cons_succ, List.getD_cons_zero])
        | (refine x_run rfl fun K hK w1 hw1 => ?_; go_simp; refine hK _ ?_; clear hK K  hw1 w1))
      refine x_nil ?_
      have hW := (he.trans (Ext.drew wr)).trans hwf
      go_wp2
      go_roundw
      case rel => exact ⟨i + 1, by omega, by go_num, hW⟩
      case measure => simp [intOf]; omega
    · obtain rfl : n = i := by omega
      go_wp2
      go_ret
      exact ⟨rfl, he⟩
theorem own_req {w : World} {a : Int} {q : Option Addr} {n c : Nat} {xs bs : List Nat} (e : xs.length = n) (h : Own w (.sl .flt) [.slice q n c] xs bs) : Own w shRequest [.int .i64 a, .slice q n c] (a, xs, ()) bs := by
  subst e
  exact ⟨[.int .i64 a], [.slice q xs.length c], [], bs, rfl, ⟨rfl, rfl⟩, ⟨[.slice q xs.length c], [], bs, [], rfl, h, ⟨rfl, rfl⟩, by simp⟩, rfl⟩
theorem atR_snoc (l : List shRequest.T) (d : shRequest.T) (j : Nat) : atR (l ++ [d]) j = if j < l.length then atR l j else if j = l.length then d.1 else 0 := by
  unfold atR
  by_cases h : j < l.length
  · rw [if_pos h, List.getElem?_append_left h]
  · rw [if_neg h, List.getElem?_append_right (by omega)]
    by_cases h2 : j = l.length
    · subst h2; rw [if_pos rfl, Nat.sub_self]; rfl
    · rw [if_neg h2, List.getElem?_eq_none (by simp; omega)]; rfl
theorem rowR_snoc (l : List shRequest.T) (d : shRequest.T) (j : Nat) : rowR (l ++ [d]) j = if j < l.length then rowR l j else if j = l.length then d.2.1 else [] := by
  unfold rowR
  by_cases h : j < l.length
  · rw [if_pos h, List.getElem?_append_left h]
  · rw [if_neg h, List.getElem?_append_right (by omega)]
    by_cases h2 : j = l.length
    · subst h2; rw [if_pos rfl, Nat.sub_self]; rfl
    · rw [if_neg h2, List.getElem?_eq_none (by simp; omega)]; rfl
/-- Requests that were drawn; the last one came at a. -/
structure ReqG (I : Nat) (l : List shRequest.T) (a : Int) : Prop where
  lo : ∀ j, j < l.length → 0 ≤ atR l j ∧ atR l j ≤ a
  mono : ∀ i k, i + k < l.length → atR l i ≤ atR l (i + k)
  len : ∀ j, j < l.length → (rowR l j).length = I ∧ ∀ x ∈ rowR l j, x < 4294967296
  a0 : 0 ≤ a ∧ a ≤ 5 * l.length
theorem ReqG.nil (I : Nat) : ReqG I [] 0 := ⟨fun j h => by simp at h, fun i k h => by simp at h, fun j h => by simp at h, by simp⟩
theorem ReqG.snoc {I : Nat} {l : List shRequest.T} {a b : Int} (h : ReqG I l a) {row : List Nat} (hl : row.length = I) (hr : ∀ x ∈ row, x < 4294967296) (hb : a ≤ b) (hb5 : b ≤ a + 5) : ReqG I (l ++ [(b, row, ())]) b := by
  have ha := h.a0
  refine ⟨fun j hj => ?_, fun i k hk => ?_, fun j hj => ?_, by rw [List.length_append, List.length_singleton]; omega⟩
  · rw [List.length_append, List.length_singleton] at hj
    rw [atR_snoc]
    split
    · rename_i h1; have := h.lo j h1; omega
    · rw [if_pos (by omega)]; show 0 ≤ b ∧ b ≤ b; omega
  · rw [List.length_append, List.length_singleton] at hk
    rw [atR_snoc, atR_snoc]
    by_cases h1 : i + k < l.length
    · rw [if_pos (by omega), if_pos h1]; exact h.mono i k h1
    · have h2 : i + k = l.length := by omega
      rw [if_neg h1, if_pos h2]
      show _ ≤ b
      split
      · rename_i h3; have := h.lo i h3; omega
      · rw [if_pos (by omega)]; exact Int.le_refl _
  · rw [List.length_append, List.length_singleton] at hj
    rw [rowR_snoc]
    split
    · rename_i h1; exact h.len j h1
    · rw [if_pos (by omega)]; exact ⟨hl, hr⟩
set_option maxRecDepth 100000 in
set_option maxHeartbeats 4000000 in
theorem R8Requests_any (p : Option Addr) (n c : Nat) (bs : List Nat) (I : Nat) (w : World) (hc : Cs w p (u8s bs)) (hl : bs.length = n) (hn : n ≤ 1048576) (hb : ∀ b ∈ bs, b < 256) (hI : I ≤ 8) :
    Calls Try.prog 43 #[.slice p n c, .int .i64 I] w fun e w' => ∃ (l : List shRequest.T) (a : Int) (q : Option Addr) (cq : Nat), e = .returned (.slice q l.length cq) ∧ l.length ≤ 8 ∧ ReqG I l a ∧ Rep w' shRequestS [.slice q l.length cq] l ∧ Ext w w' := by
  go_enter Try.func43, Try.ntmps43
  go_wp2_with fail
  refine (l00From_any p n c bs w hc hl hn hb).mono ?_
  rintro e w1 ⟨rfl, src, e1⟩
  have hsb := src.lt
  have hstart : (w1.alloc (.cells #[] 83)).ownsRow w1.heap.size 83 2 (.slice (some ⟨w1.heap.size, 0, none⟩) 0 0) 0 [] := World.ownsRow_made w1 #[] 0 (Nat.le_refl _) (by decide) rfl
  have e2 := Ext.alloc w1 (.cells #[] 83)
  obtain ⟨w2, hw2⟩ : ∃ w2, w2 = w1.alloc (.cells #[] 83) := ⟨_, rfl⟩
  rw [← hw2] at hstart e2
  have hsrc := src.ext e2
  have hz12 := e2.size
  go_wp2_with fail
  rw [← hw2]
  clear hw2 src
  refine (drPick_any w.heap.size 0 9 w2 hsrc (by omega) (by omega)).mono ?_
  rintro e w3 ⟨M, rfl, hM, _, src3, c3⟩
  have hM := hM (by omega)
  have own3 := ownsRow_chg hstart c3 (fun k hk => by have := own_le hstart k hk; omega)
  have E3 := chg_new (e1.trans e2) c3 (Nat.le_refl _)
  have hz3 := c3.size
  clear hstart hsrc c3
  go_wp2
  go_loopw [6, 7, 8] (fun ov av kv wr => ∃ (i cq : Nat) (l : List shRequest.T) (a : Int) (q : Option Addr) (cs : List (List Value)) (bss : List (List Nat)), i ≤ M ∧ ov = .slice q i cq ∧ av = .int .i64 a ∧ kv = .int .i64 ((M : Int) - (i : Int)) ∧ Hid (l.length = i) ∧ Hid (GrowOwn wr w1.heap.size 83 shRequest (.slice q i cq) l cs bss) ∧ ReqG I l a ∧ DrAt wr w.heap.size (4 + i * 5000) ∧ Ext w wr ∧ w1.heap.size ≤ wr.heap.size) (fun _ _ kv _ => (intOf kv).toNat)
  case atStart => exact ⟨0, 0, [], 0, _, [], [], by omega, rfl, rfl, by simp, rfl, GrowOwn.empty own3, ReqG.nil I, src3.mono (by omega), E3, by omega⟩
  case round =>
    clear own3 src3 E3
    obtain ⟨i, cq, l, a, q, cs, bss, hi, rfl, rfl, rfl, HL, HG, HQ, S, C, hz⟩ := hrel
    by_cases hlt : i < M
    · have hgt : decide (0 < (M : Int) - (i : Int)) = true := by simp; omega
      have ha0 := HQ.a0
      rw [HL.out] at ha0
      go_wp2_with fail
      refine (drPick_any w.heap.size (4 + i * 5000) 6 wr S (by omega) (by omega)).mono ?_
      rintro e w4 ⟨y, rfl, hy, _, S4, c4⟩
      have hy := hy (by omega)
      go_wp2_with fail
      refine (drFloats_any w.heap.size (4 + i * 5000 + 2) I w4 S4 (by omega) (by omega)).mono ?_
      rintro e w5 h5
      obtain ⟨row, rq, rc, bsr, rfl, hrl, hrb, ow, ndr, lor, _, S5, c5⟩ := gotFs_thing h5
      have CC := c4.trans c5
      have hrow := HG.out.row
      rw [HL.out] at hrow
      have row5 := own_chgB hrow CC (fun b hb => by have hb : b = _ := hb; omega)
      have C5 := chg_new C CC (Nat.le_refl _)
      have z4 := c4.size
      have z5 := c5.size
      have HRL := hid hrl
      clear h5 hrl S4 S
      go_wp2_with ((with_reducible show wpList _ _ _ (Oper.mk _ (Op.buildSlice _ _ _) _ _ _ _ :: Oper.mk _ (Op.call _) _ _ _ _ :: _) _ _); refine wl_app1b (u := .agg #[.int .i64 (a + (y : Int)), .slice rq I rc]) rfl rfl rfl rfl rfl (by rfl) (by rfl) (fun _ => rfl) (fun _ => rfl) row5 (by unfold maxLen; omega) (by omega) (by omega) ?_; intro g9 c9 w9 own9 gr9 hw9)
      go_roundw
      case rel =>
        have H9 := HG.out.snocC CC (fun b hb => by have hb : b = _ := hb; omega) (own_req (a := a + (y : Int)) HRL.out ow) ndr (fun b hb => by have := lor b hb; omega) hz (n := i) HL.out own9 gr9 (by rcases hw9 with h | h; exact .inl h; right; omega)
        have S9 := (S5.chg (.of_grown gr9) (fun b hb => by have := own_le row5 b hb.symm; omega)).mono (show 4 + i * 5000 + 2 + 2 + I * 30 ≤ 4 + (i + 1) * 5000 by omega)
        exact ⟨i + 1, c9, l ++ [(a + (y : Int), row, ())], a + (y : Int), some ⟨g9, 0, none⟩, _, _, by omega, rfl, rfl, by go_num, by rw [Hid, List.length_append, HL.out]; rfl, H9, HQ.snoc HRL.out hrb (by omega) (by omega), S9, C5.grown gr9 (fun k hk => by have := own_le row5 k hk; omega), by have := gr9.size; omega⟩
      case measure => simp [intOf]; omega
    · obtain rfl : M = i := by omega
      obtain ⟨ob, o1, _, _⟩ := HG.out.own
      have hR := o1.rep
      have HLo := HL.out
      subst HLo
      go_wp2
      go_ret
      exact ⟨l, a, q, cq, rfl, by omega, HQ, hR, C⟩
end Go.Proofs.Ytlimabbeaimdgaa
