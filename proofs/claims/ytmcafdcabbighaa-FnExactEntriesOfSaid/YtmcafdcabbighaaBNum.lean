/- BytesNumbers of the program and of the reference. -/
import Derived.Test.YtmcafdcabbighaaSrc3
namespace Go.Proofs.Ytmcafdcabbighaa.lBytesNumbers
set_option linter.unusedSimpArgs false
set_option linter.unusedVariables false
open Go.RowKit

set_option maxRecDepth 100000 in
set_option maxHeartbeats 1000000 in
theorem l01From_any (r : Nat) (w : World) (hr : r < 4294967296) : Calls Try.prog 111 #[.int .i64 r] w fun e w' => e = .returned (.float .f32 r) ∧ w = w' := by
  have hxf := run_f32from (r : Int)
  rw [Int.toNat_natCast] at hxf
  go_enter Try.func111, Try.ntmps111
  go_wp2
  go_ret
  exact ⟨rfl, rfl⟩
set_option maxRecDepth 100000 in
set_option maxHeartbeats 4000000 in
theorem l08List_any (l : List UInt8) (n : Nat) (w : World) (hn : l.length / 4 = n) (hl : n ≤ 4096) :
    Calls Try.prog 93 #[.string ⟨l.toArray⟩] w fun e w' => RetFl2 w (numsF l n) e w' ∧ Ext w w' := by
  have hz := ba_size l
  have hstart : (w.alloc (.cells #[] 72)).ownsRow w.heap.size 72 1 (.slice (some ⟨w.heap.size, 0, none⟩) 0 0) 0 [] := World.ownsRow_made w #[] 0 (Nat.le_refl _) (by decide) rfl
  have e0 := Ext.alloc w (.cells #[] 72)
  go_enter Try.func93, Try.ntmps93
  go_wp2
  go_loopw [3, 4] (fun ov iv wr => ∃ (i : Nat) (vs : List Value) (q : Option Addr) (cq : Nat), i ≤ n ∧ iv = .int .i64 (4 * (i : Int)) ∧ ov = .slice q i cq ∧ wr.ownsRow w.heap.size 72 1 (.slice q i cq) i vs ∧ Hid (F32s vs (numsF l i)) ∧ Ext w wr) (fun _ iv _ => (4 * n - intOf iv).toNat)
  case atStart => exact ⟨0, [], _, _, by omega, by go_num, rfl, hstart, F32s.nil, e0⟩
  case round =>
    clear hstart e0
    obtain ⟨i, vs, q, cq, hi, rfl, rfl, own0, HF, he⟩ := hrel
    have hB := he.size
    by_cases hlt : i < n
    · have hx := ba_ext l (4 * i) (4 * i + 4)
      rw [List.drop_take, show 4 * i + 4 - 4 * i = 4 by omega] at hx
      have C := l08Number_any ((l.drop (4 * i)).take 4) wr (by simp; omega)
      rw [← (rawN_bd l i).2] at C
      have hrb := (rawN_bd l i).1
      have Hs := hid (numsF_succ l i)
      have D := l01From_any (rawN l i) wr hrb
      generalize rawN l i = r at *
      have t1 : (4 * (i : Int)).toNat = 4 * i := by omega
      have t2 : (4 * (i : Int) + 4).toNat = 4 * i + 4 := by omega
      go_wp2_with fail
      refine C.mono ?_
      rintro e w1 ⟨rfl, rfl⟩
      go_wp2_with fail
      refine D.mono ?_
      rintro e w1 ⟨rfl, rfl⟩
      go_wp2_with ((with_reducible show wpList _ _ _ (Oper.mk _ (Op.buildSlice _ _ _) _ _ _ _ :: Oper.mk _ (Op.call _) _ _ _ _ :: _) _ _); refine wl_app1b (u := .float .f32 r) rfl rfl rfl rfl rfl rfl rfl (fun _ => rfl) (fun _ => rfl) own0 (by unfold maxLen; omega) (by omega) (by omega) ?_; intro g c w2 own2 g2 hg2)
      go_roundw
      case rel =>
        have own3 : w2.ownsRow w.heap.size 72 1 (.slice (some ⟨g, 0, none⟩) (i + 1) c) (i + 1) (vs ++ [.float .f32 r]) := own2
        refine ⟨i + 1, vs ++ [.float .f32 r], _, _, by omega, by go_num, rfl, own3, ?_, he.grown g2 (fun k hk => own_le own0 k hk)⟩
        rw [Hid, Hs.out]; exact HF.out.snoc1 r
      case measure => simp [intOf]; omega
    · obtain rfl : i = n := by omega
      go_wp2
      go_ret
      refine ⟨⟨q, cq, vs, ?_, ?_, HF.out⟩, he⟩
      · rw [numsF_len]; rfl
      · rw [numsF_len]; exact own0

def lst (s : ByteArray) : List UInt8 := s.data.toList
theorem lst_eq (s : ByteArray) : (⟨(lst s).toArray⟩ : ByteArray) = s := by unfold lst; simp
def res (s : ByteArray) : List Nat × Bool :=
  if (lst s).length ≤ 16384 ∧ bytesOf (numsF (lst s) ((lst s).length / 4)) = lst s then (numsF (lst s) ((lst s).length / 4), true) else ([], false)
theorem res_bd (s : ByteArray) (_ : Fit .str s) : tot (.sl .flt) (res s).1 ≤ 1048576 := by
  rw [tot_flts]
  unfold res
  split
  · rename_i h
    show (numsF (lst s) ((lst s).length / 4)).length ≤ 1048576
    rw [numsF_len]
    have := h.1
    omega
  · simp
theorem own_outN {w0 w w' : World} {q : Option Addr} {c : Nat} {xs : List Nat} {vs : List Value} {e : Ending} (h : w'.ownsRow w0.heap.size 72 1 (.slice q xs.length c) xs.length vs) (hf : F32s vs xs) (he : e = .returned (.tuple #[.slice q xs.length c, .bool true])) (hx : Ext w w') (hs : w.heap.size ≤ w0.heap.size) : OutOk w (.sl .flt) (xs, true) e w' := by
  have h1 := own_flts.2 ⟨q, c, vs, rfl, ownRow_of h, hf, (own_cap h).1, (own_cap h).2, rfl⟩
  refine ⟨[.slice q xs.length c], _, he, h1, ?_, ?_, hx⟩
  · cases q <;> simp [blocksOf]
  · intro b hb
    cases q with
    | none => simp [blocksOf] at hb
    | some a => simp [blocksOf] at hb; subst hb; exact Nat.le_trans hs (own_le h _ rfl)

theorem own_formN {w : World} {B e s n : Nat} {v : Value} {vs : List Value} (h : w.ownsRow B e s v n vs) : ∃ q c, v = .slice q n c := by
  rcases h.2 with ⟨h1, h2⟩ | ⟨g, cap, cur, h1, _⟩
  · exact ⟨none, 0, by rw [h1, h2]⟩
  · exact ⟨_, _, h1⟩
def resL (l : List UInt8) : List Nat × Bool :=
  if l.length ≤ 16384 ∧ bytesOf (numsF l (l.length / 4)) = l then (numsF l (l.length / 4), true) else ([], false)
set_option maxRecDepth 100000 in
set_option maxHeartbeats 4000000 in
theorem spec_l (l : List UInt8) (w : World) (hl : l.length ≤ 9223372036854775807) : Calls Try.prog 51 #[.string ⟨l.toArray⟩] w (OutOk w (.sl .flt) (resL l)) := by
  have hz := ba_size l
  unfold resL
  by_cases h1 : l.length ≤ 16384
  rotate_left 1
  · rw [if_neg (fun h => h1 h.1)]
    go_enter Try.func51, Try.ntmps51
    go_wp2
    go_ret2
    exact outOk_no rfl (Ext.refl _)
  have C := l08List_any l (l.length / 4) w rfl (by omega)
  have hlen := numsF_len l (l.length / 4)
  have hle : l.length / 4 ≤ 4096 := by omega
  generalize numsF l (l.length / 4) = X at *
  generalize l.length / 4 = m at *
  have hle2 : X.length ≤ 4096 := by omega
  clear hlen
  by_cases h2 : bytesOf X = l
  · rw [if_pos ⟨h1, h2⟩]
    have hq : (bytesOf X == l) = true := beq_iff_eq.2 h2
    go_enter Try.func51, Try.ntmps51
    go_wp2_with fail
    refine C.mono ?_
    rintro e w1 ⟨⟨q, c, vs, rfl, own1, hf⟩, e1⟩
    go_wp2_with fail
    refine (l08Bytes_any q X.length c vs X w1 rfl (by omega) (own_Cs own1) hf).mono ?_
    rintro e w2 ⟨rfl, e2⟩
    go_wp2
    go_ret2
    exact own_outN (own_ext own1 e2) hf rfl (e1.trans e2) (Nat.le_refl _)
  · rw [if_neg (fun h => h2 h.2)]
    have hq : (bytesOf X == l) = false := beq_eq_false_iff_ne.2 h2
    go_enter Try.func51, Try.ntmps51
    go_wp2_with fail
    refine C.mono ?_
    rintro e w1 ⟨⟨q, c, vs, rfl, own1, hf⟩, e1⟩
    go_wp2_with fail
    refine (l08Bytes_any q X.length c vs X w1 rfl (by omega) (own_Cs own1) hf).mono ?_
    rintro e w2 ⟨rfl, e2⟩
    go_wp2
    go_ret2
    exact outOk_no rfl (e1.trans e2)
set_option maxRecDepth 100000 in
set_option maxHeartbeats 4000000 in
theorem impl_l (l : List UInt8) (w : World) (hl : l.length ≤ 9223372036854775807) : Calls Try.prog 52 #[.string ⟨l.toArray⟩] w (OutOk w (.sl .flt) (resL l)) := by
  have hz := ba_size l
  unfold resL
  have hmod : Int.tmod (l.length : Int) 4 = ((l.length % 4 : Nat) : Int) := by rw [Int.tmod_eq_emod_of_nonneg (by omega)]; omega
  have hdiv : Int.tdiv (l.length : Int) 4 = ((l.length / 4 : Nat) : Int) := by rw [Int.tdiv_eq_ediv_of_nonneg (by omega)]; omega
  by_cases h0 : l.length % 4 = 0
  rotate_left 1
  · have hbl := bytesOf_length (numsF l (l.length / 4))
    rw [numsF_len] at hbl
    rw [if_neg (fun h => by have := h.2; rw [this] at hbl; omega)]
    clear hbl
    go_enter Try.func52, Try.ntmps52
    go_wp2
    go_ret2
    exact outOk_no rfl (Ext.refl _)
  by_cases h1 : l.length ≤ 16384
  rotate_left 1
  · rw [if_neg (fun h => h1 h.1)]
    go_enter Try.func52, Try.ntmps52
    go_wp2
    go_ret2
    exact outOk_no rfl (Ext.refl _)
  have hle : l.length / 4 ≤ 4096 := by omega
  have C := hid (fun W (h : SrcAt W w.heap.size l false) => list_any w.heap.size l (l.length / 4) W h (by omega) hle)
  have hlen := numsF_len l (l.length / 4)
  generalize numsF l (l.length / 4) = X at *
  generalize hm : l.length / 4 = m at *
  have hle2 : X.length ≤ 4096 := by omega
  clear hlen
  have hsrc : SrcAt (w.alloc (.cells #[.string ⟨l.toArray⟩, .bool false] 103)) w.heap.size l false := heap_alloc_new _ _
  have E0 := Ext.alloc w (.cells #[.string ⟨l.toArray⟩, .bool false] 103)
  by_cases h2 : bytesOf X = l
  · rw [if_pos ⟨h1, h2⟩]
    have hq : (bytesOf X == l) = true := beq_iff_eq.2 h2
    clear h2
    go_enter Try.func52, Try.ntmps52
    go_wp2_with fail
    refine (C.out _ hsrc).mono ?_
    rintro e w1 ⟨⟨q, c, vs, rfl, own1, hf⟩, c1⟩
    have e1 : Ext w w1 := E0.chg c1 (fun k hk => by omega)
    go_wp2_with fail
    refine (numbers_any (.slice none 0 0) 0 w1.heap.size [] q X.length c vs X w1 (Nat.le_refl _) (World.ownsRow_nil _ _ _ _) rfl (by omega) (own_Cs own1) hf (fun hne => (own_Cs own1).blk hne)).mono ?_
    rintro e w2 ⟨v1, rfl, o1, c2, b1⟩
    rw [Nat.zero_add, List.nil_append] at o1
    have e2 : Ext w1 w2 := (Ext.refl w1).chg c2 (fun b hb => by cases hb)
    obtain ⟨q2, cq2, rfl⟩ := own_formN o1
    have own2 := own_ext own1 e2
    go_wp2_with (refine wl_bytesStr rfl rfl rfl (own_Cs o1) rfl ?_)
    go_ret2
    exact own_outN own2 hf rfl (e1.trans e2) E0.size
  · rw [if_neg (fun h => h2 h.2)]
    have hq : (bytesOf X == l) = false := beq_eq_false_iff_ne.2 h2
    go_enter Try.func52, Try.ntmps52
    go_wp2_with fail
    refine (C.out _ hsrc).mono ?_
    rintro e w1 ⟨⟨q, c, vs, rfl, own1, hf⟩, c1⟩
    have e1 : Ext w w1 := E0.chg c1 (fun k hk => by omega)
    go_wp2_with fail
    refine (numbers_any (.slice none 0 0) 0 w1.heap.size [] q X.length c vs X w1 (Nat.le_refl _) (World.ownsRow_nil _ _ _ _) rfl (by omega) (own_Cs own1) hf (fun hne => (own_Cs own1).blk hne)).mono ?_
    rintro e w2 ⟨v1, rfl, o1, c2, b1⟩
    rw [Nat.zero_add, List.nil_append] at o1
    have e2 : Ext w1 w2 := (Ext.refl w1).chg c2 (fun b hb => by cases hb)
    obtain ⟨q2, cq2, rfl⟩ := own_formN o1
    have own2 := own_ext own1 e2
    go_wp2_with (refine wl_bytesStr rfl rfl rfl (own_Cs o1) rfl ?_)
    go_ret2
    exact outOk_no rfl (e1.trans e2)
theorem res_l (s : ByteArray) : res s = resL (lst s) := rfl
theorem spec_ok (D0 : ByteArray) (w : World) (f0 : Fit .str D0) : Calls Try.prog 51 #[.string D0] w (OutOk w (.sl .flt) (res D0)) := by
  have f1 : D0.size ≤ maxLen := f0
  unfold maxLen at f1
  have h := spec_l (lst D0) w (by rw [← ba_size, lst_eq]; omega)
  rw [lst_eq] at h
  exact h
theorem impl_ok (D0 : ByteArray) (w : World) (f0 : Fit .str D0) : Calls Try.prog 52 #[.string D0] w (OutOk w (.sl .flt) (res D0)) := by
  have f1 : D0.size ≤ maxLen := f0
  unfold maxLen at f1
  have h := impl_l (lst D0) w (by rw [← ba_size, lst_eq]; omega)
  rw [lst_eq] at h
  exact h
end Go.Proofs.Ytmcafdcabbighaa.lBytesNumbers
